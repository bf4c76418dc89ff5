/- Rows.StoreRefusesSaid -/
import Derived.Test.YtpmmiljakbojaaaGreatRF22
import Derived.Test.YtpmmiljakbojaaaGreatShelf
import Derived.Test.YtpmmiljakbojaaaGreatRF14
import Derived.RangeFuncNested
import Derived.RangeFuncBound
import Derived.RangeFuncCalls
import Derived.RangeFuncLeaves
import Derived.Shelf.Abstract
import Derived.Shelf.RegionOpen
import Derived.OwnWalkIn
import Derived.TacticsInMore
import Derived.LoopNIn
import Derived.LoopIn
import Derived.Maps.AppendAt
import Derived.Test.YtpmmiljakbojaaaGreatRF2
import Derived.Shelf.SlSortCmp.WholeK
namespace Go.Proofs.YtpmmiljakbojaaaGreat
open Go.RowKit
open Go.RowKit Go.Shelf
open Go.Maps (Keyed)
open Go.RowKit Go.Sort
set_option linter.unusedVariables false
set_option maxHeartbeats 64000000
set_option maxRecDepth 100000
section
variable {F0:List Nat} {w0 w:World} {R:List Asrt}
structure AStV (F0:List Nat) (w0:World) (R:List Asrt) (s:StD) (A D F:Option Addr):Prop where
 bks:RowV F0 w0 R A s.bks.length 3 ((s.bks.map encB).flatten)
 drs:RowV F0 w0 R D s.drs.length 2 ((s.drs.map encDr).flatten)
 fls:RowV F0 w0 R F s.fls.length 8 ((s.fls.map encFs).flatten)
abbrev agSt (s:StD) (A:Option Addr) (a:Nat) (D:Option Addr) (e:Nat) (F:Option Addr) (h:Nat):Value:=.agg #[.int .i64 s.gen,.slice A s.bks.length a,.slice D s.drs.length e,.slice F s.fls.length h]
theorem RowV.drop2 {X Y:Asrt} {A:Option Addr} {n k:Nat} {xs:List Value} (h:RowV F0 w0 R A n k xs):RowV F0 w0 (X::Y::R) A n k xs:=fun w' h'=>h w' h'.drop.drop
theorem o_stsame {s1 s2:StD} {A1 D1 F1 A2 D2 F2:Option Addr} {a1 e1 h1 a2 e2 h2:Nat} (v1:AStV F0 w0 R s1 A1 D1 F1) (v2:AStV F0 w0 R s2 A2 D2 F2) (lb:s1.bks.length≤1000000) (ld:s1.drs.length≤1000000) (lf:s1.fls.length≤1000000) (h:In F0 w0 w R) :
  Calls Tryz.prog 149 #[agSt s1 A1 a1 D1 e1 F1 h1,agSt s2 A2 a2 D2 e2 F2 h2] w fun e w'=>e=.returned (.bool (decide (s1=s2)))∧In F0 w0 w' R:=by
 obtain⟨g1,b1,d1,f1⟩:=s1
 obtain⟨g2,b2,d2,f2⟩:=s2
 obtain⟨vb1,vd1,vf1⟩:=v1
 obtain⟨vb2,vd2,vf2⟩:=v2
 simp only at vb1 vd1 vf1 vb2 vd2 vf2 lb ld lf
 have hh:In F0 w0 ((w.alloc (.cells #[.int .i64 g1,.slice A1 b1.length a1,.slice D1 d1.length e1,.slice F1 f1.length h1] 59)).alloc (.cells #[.int .i64 g2,.slice A2 b2.length a2,.slice D2 d2.length e2,.slice F2 f2.length h2] 59)) (Cells (w.heap.size+1) #[.int .i64 g2,.slice A2 b2.length a2,.slice D2 d2.length e2,.slice F2 f2.length h2] 59::Cells w.heap.size #[.int .i64 g1,.slice A1 b1.length a1,.slice D1 d1.length e1,.slice F1 f1.length h1] 59::R):=by
  have h3:=(h.cells #[.int .i64 g1,.slice A1 b1.length a1,.slice D1 d1.length e1,.slice F1 f1.length h1] 59).cells #[.int .i64 g2,.slice A2 b2.length a2,.slice D2 d2.length e2,.slice F2 f2.length h2] 59
  simp only [World.size_alloc] at h3
  exact h3
 have KB:=Lib.hid (o_eqbk (c1:=a1) (c2:=a2) vb1.drop2 vb2.drop2 lb hh)
 have KD:Hid (∀ w',In F0 w0 w' (Cells (w.heap.size+1) #[.int .i64 g2,.slice A2 b2.length a2,.slice D2 d2.length e2,.slice F2 f2.length h2] 59::Cells w.heap.size #[.int .i64 g1,.slice A1 b1.length a1,.slice D1 d1.length e1,.slice F1 f1.length h1] 59::R)→Calls Tryz.prog 179 #[.slice D1 d1.length e1,.slice D2 d2.length e2] w' fun e w''=>e=.returned (.bool (decide (d1=d2)))∧In F0 w0 w'' (Cells (w.heap.size+1) #[.int .i64 g2,.slice A2 b2.length a2,.slice D2 d2.length e2,.slice F2 f2.length h2] 59::Cells w.heap.size #[.int .i64 g1,.slice A1 b1.length a1,.slice D1 d1.length e1,.slice F1 f1.length h1] 59::R)):=Lib.hid fun w' h'=>o_eqdr vd1.drop2 vd2.drop2 ld h'
 have KF:Hid (∀ w',In F0 w0 w' (Cells (w.heap.size+1) #[.int .i64 g2,.slice A2 b2.length a2,.slice D2 d2.length e2,.slice F2 f2.length h2] 59::Cells w.heap.size #[.int .i64 g1,.slice A1 b1.length a1,.slice D1 d1.length e1,.slice F1 f1.length h1] 59::R)→Calls Tryz.prog 180 #[.slice F1 f1.length h1,.slice F2 f2.length h2] w' fun e w''=>e=.returned (.bool (decide (f1=f2)))∧In F0 w0 w'' (Cells (w.heap.size+1) #[.int .i64 g2,.slice A2 b2.length a2,.slice D2 d2.length e2,.slice F2 f2.length h2] 59::Cells w.heap.size #[.int .i64 g1,.slice A1 b1.length a1,.slice D1 d1.length e1,.slice F1 f1.length h1] 59::R)):=Lib.hid fun w' h'=>o_eqfl vf1.drop2 vf2.drop2 lf h'
 have HH:=Lib.hid hh.drop.drop
 have e:decide ((⟨g1,b1,d1,f1⟩:StD)=⟨g2,b2,d2,f2⟩)=(decide (g1=g2) && (decide (b1=b2) && (decide (d1=d2) && decide (f1=f2)))):=by simp only [StD.mk.injEq,Bool.decide_and]
 rw [e]
 clear e h hh vb1 vd1 vf1 vb2 vd2 vf2 lb ld lf
 have qg:(g1 == g2)=decide (g1=g2):=rfl
 generalize decide (g1=g2)=xg at *
 generalize decide (b1=b2)=xb at *
 generalize decide (d1=d2)=xd at *
 generalize decide (f1=f2)=xf at *
 cases xg with
 | false=>
  clear KB KD KF
  go_enter Tryz.func149,Tryz.ntmps149
  go_wp2_with fail
  go_ret
  exact⟨rfl,HH.out⟩
 | true=>
  clear HH
  cases xb with
  | false=>
   clear KD KF
   go_enter Tryz.func149,Tryz.ntmps149
   go_wp2_with fail
   refine KB.out.mono ?_
   rintro e w1 ⟨rfl,gw1⟩
   clear KB
   have G:=Lib.hid gw1.drop.drop
   clear gw1
   go_wp2_with fail
   go_ret
   exact⟨rfl,G.out⟩
  | true=>
   cases xd with
   | false=>
    clear KF
    go_enter Tryz.func149,Tryz.ntmps149
    go_wp2_with fail
    refine KB.out.mono ?_
    rintro e w1 ⟨rfl,gw1⟩
    clear KB
    have p2w1:w1.cell? ⟨w.heap.size,2,none⟩=some (.slice D1 d1.length e1):=cell_of (gw1.block 1 rfl) rfl
    have q2w1:w1.cell? ⟨w.heap.size+1,2,none⟩=some (.slice D2 d2.length e2):=cell_of (gw1.block 0 rfl) rfl
    have K2:=Lib.hid (KD.out _ gw1)
    clear gw1 KD
    go_wp2_with fail
    refine K2.out.mono ?_
    rintro e w2 ⟨rfl,gw2⟩
    clear K2
    have G:=Lib.hid gw2.drop.drop
    clear gw2
    go_wp2_with fail
    go_ret
    exact⟨rfl,G.out⟩
   | true=>
    go_enter Tryz.func149,Tryz.ntmps149
    go_wp2_with fail
    refine KB.out.mono ?_
    rintro e w1 ⟨rfl,gw1⟩
    clear KB
    have p2w1:w1.cell? ⟨w.heap.size,2,none⟩=some (.slice D1 d1.length e1):=cell_of (gw1.block 1 rfl) rfl
    have q2w1:w1.cell? ⟨w.heap.size+1,2,none⟩=some (.slice D2 d2.length e2):=cell_of (gw1.block 0 rfl) rfl
    have K2:=Lib.hid (KD.out _ gw1)
    clear gw1 KD
    go_wp2_with fail
    refine K2.out.mono ?_
    rintro e w2 ⟨rfl,gw2⟩
    clear K2
    have p3w2:w2.cell? ⟨w.heap.size,3,none⟩=some (.slice F1 f1.length h1):=cell_of (gw2.block 1 rfl) rfl
    have q3w2:w2.cell? ⟨w.heap.size+1,3,none⟩=some (.slice F2 f2.length h2):=cell_of (gw2.block 0 rfl) rfl
    have K3:=Lib.hid (KF.out _ gw2)
    clear gw2 KF
    go_wp2_with fail
    refine K3.out.mono ?_
    rintro e w3 ⟨rfl,gw3⟩
    clear K3
    have G:=Lib.hid gw3.drop.drop
    clear gw3
    go_wp2_with fail
    go_ret
    exact⟨by simp,G.out⟩
end
def noValS:Value→Option (DataW Unit×List MemPlace):=fun _=>some (.lit (.bool true),[])
def keyIntS:Value→Int
 | .int _ a=>a
 | _=>0
theorem own_intsS {w:World} {bm:Nat} {M:List (Int×Int)} {F:List Nat} (h:SDM bm M w F) (hk:(M.map Prod.fst).Nodup) (hM:M.length≤1024) :
  ∃ D0:DataW Unit,w.ownsMap Tryz.prog 3 noValS bm M.length D0∧(Go.intKeys D0).Perm (M.map (·.1))∧Maps.size D0=M.length:=by
 obtain⟨-,es,clock,hb,hs,hkey,hR,hn⟩:=h
 have hall:∀ x∈es.toList,∃ a:Int,x.key=.int .i64 a∧keyOf Tryz.prog 3 x.key=some (.int .i64 a):=by
  intro x hx
  obtain⟨l,hl⟩:=hkey x hx
  obtain⟨a,h1,h2,_⟩:=Maps.keyOf_i64 Tryz.underlying3 hl
  exact⟨a,h1,h2 ▸ hl⟩
 refine⟨_,⟨es,clock,hb,⟨by unfold maxLen;omega,hs,fun x hx=>?_⟩,by omega,rfl⟩,?_,?_⟩
 ·obtain⟨a,h1,h2⟩:=hall x hx
  exact⟨_,by unfold WideElems.rd;rw [h2];rfl⟩
 ·show ((((es.toList.map (WideElems.rg Tryz.prog 3 noValS)).foldr DataW.insert []).map fun p=>_root_.Go.intOf p.1)).Perm _
  have hl:(es.toList.map (WideElems.rg Tryz.prog 3 noValS)).map (fun p=>_root_.Go.intOf p.1)=es.toList.map (fun x=>keyIntS x.key):=by
   rw [List.map_map]
   refine List.map_congr_left (fun x hx=>?_)
   obtain⟨a,h1,h2⟩:=hall x hx
   show _root_.Go.intOf (WideElems.rg Tryz.prog 3 noValS x).1=_
   unfold WideElems.rg WideElems.rd
   rw [h2,h1];rfl
  refine ((WideShapes.sorted_perm _).map _).trans ?_
  rw [hl]
  refine (List.perm_ext_iff_of_nodup ?_ hk).2 (fun a=>?_)
  ·rw [List.Nodup,List.pairwise_map,List.pairwise_iff_getElem]
   intro i j hi hj hij e
   have n1:=keys_ne hs (i:=i) (j:=j) (x:=es.toList[i]) (y:=es.toList[j]) (by simp at hi ⊢) (by simp at hj ⊢) (by omega)
   obtain⟨a,h1,_⟩:=hall _ (List.getElem_mem hi)
   obtain⟨b,h2,_⟩:=hall _ (List.getElem_mem hj)
   rw [h1,h2] at n1 e
   exact n1 (by rw [show a=b from e])
  ·simp only [List.mem_map]
   constructor
   ·rintro ⟨x,hx,rfl⟩
    obtain⟨i,hi,rfl⟩:=List.mem_iff_getElem.1 hx
    obtain⟨y,hy,e1,_⟩:=(hR es.toList[i].key es.toList[i].val).2 ⟨i,es.toList[i],by simp at hi ⊢,rfl,rfl⟩
    exact⟨y,hy,by rw [e1];rfl⟩
   ·rintro ⟨y,hy,rfl⟩
    obtain⟨i,x,hx,e1,_⟩:=(hR (.int .i64 y.1) (.int .i64 y.2)).1 ⟨y,hy,rfl,rfl⟩
    exact⟨x,by rw [Array.mem_toList_iff];exact Array.mem_of_getElem? hx,by rw [e1];rfl⟩
 ·show ((es.toList.map (WideElems.rg Tryz.prog 3 noValS)).foldr DataW.insert []).length=_
  rw [length_read,hn]
/-! ### the calls -/
theorem keysS_call (mb:Option Nat) (W:World):Calls Tryz.prog 54 #[.map mb] W fun e w'=>e=.returned (.func (.func 110) #[] #[.pointer (some ⟨W.heap.size,0,none⟩)])∧w'=W.alloc (.cells #[.map mb] 113):=
 (callsIn_wide (n:=5)).1 (AnyZI.keys_in Tryz.keysI Fence.wide 5 trivial rfl mb W)
theorem sortsS_in (m:Nat):AnyZI.SortsIn Tryz.prog Tryz.sortedI_ren Fence.wide m:=
 ⟨fun blk off cap ss W hH hblk hsz=>callsIn_wide.2 (AnyM.slices_Sort_int Tryz.sortI blk off cap ss W hH hblk hsz),
   fun p cap W=>callsIn_wide.2 (AnyM.slices_Sort_int_none Tryz.sortI p cap W)⟩
def SortedPostS (M:List (Int×Int)) (W:World) (e:Ending) (w':World):Prop:=
 ∃ (v:Value) (ss:List Int),e=.returned v∧ss.Perm (M.map (·.1))∧w'.ownsRow W.heap.size 3 1 v ss.length ((ss.mergeSort (fun x y=>decide (x≤y))).map encZ)∧Below W.heap.size W w'
theorem sortedS_call {W:World} {bm:Nat} {M:List (Int×Int)} {F:List Nat} (h:SDM bm M W F) (hk:(M.map Prod.fst).Nodup) (hM:M.length≤1024) :
  Calls Tryz.prog 53 #[.func (.func 110) #[] #[.pointer (some ⟨W.heap.size,0,none⟩)]] (W.alloc (.cells #[.map (some bm)] 113)) (SortedPostS M (W.alloc (.cells #[.map (some bm)] 113))):=by
 obtain⟨D0,hown,hp,hs⟩:=own_intsS h hk hM
 have hbl:=hown.lt
 have hseq:SeqGives Fence.wide 2 Tryz.prog 110 #[.pointer (some ⟨W.heap.size,0,none⟩)] encZ (fun ss=>ss.Perm (Go.intKeys D0)) (Maps.size D0) (W.alloc (.cells #[.map (some bm)] 113)):=
  AnyZI.keys_gives (ρ:=Tryz.keysI_ren) { Tryz.keysI with } Fence.wide _ trivial rfl (by omega) W.heap.size bm M.length D0 _ (by simp) (by simp) (by
   obtain⟨es,clock,hb,Ft,hs,hD⟩:=hown
   exact⟨es,clock,(Below.heap_alloc _ _ bm hbl).trans hb,Ft,hs,hD⟩)
 have cS:=AnyZI.sorted_in Tryz.sortedI Fence.wide 5 trivial trivial trivial trivial rfl (by omega) (sortsS_in _) (enters_of Tryz.func109 (by kernel_rfl) rfl) 110 #[.pointer (some ⟨W.heap.size,0,none⟩)] trivial (enters_of Tryz.func110 (by kernel_rfl) rfl) _ _ (by rw [hs];unfold maxLen;omega) (by rw [hs];omega) _ hseq
 change CallsIn _ _ Tryz.prog 53 _ _ _ at cS
 exact ((callsIn_wide (n:=5)).1 cS).mono fun e w' ⟨v,ss,he,h1,h2,_,h4⟩=>⟨v,ss,he,h1.trans hp,h2,h4⟩
theorem keys_srt {M:List (Int×Int)} (h:SrtD M) {ss:List Int} (hp:ss.Perm (M.map (·.1))):ss.mergeSort (fun x y=>decide (x≤y))=M.map (·.1):=by
 refine List.Perm.eq_of_pairwise (le:=fun a b:Int=>a≤b) (fun a b _ _ h1 h2=>Int.le_antisymm h1 h2) ?_ ?_ ?_
 ·have:=List.pairwise_mergeSort (le:=fun x y:Int=>decide (x≤y)) (fun a b c h1 h2=>by simp at *;omega) (fun a b=>by simp;omega) ss
  exact this.imp (fun h=>by simpa using h)
 ·exact List.pairwise_map.2 (List.Pairwise.imp (fun {x y} hl=>Int.le_of_lt hl) h)
 ·exact (List.mergeSort_perm _ _).trans hp
theorem srt_keys {M:List (Int×Int)} (h:SrtD M):(M.map Prod.fst).Nodup:=by
 unfold List.Nodup
 rw [List.pairwise_map]
 refine List.Pairwise.imp (fun {x y} hl e=>?_) h
 omega
section
variable {F0:List Nat} {w0 w:World} {R:List Asrt} {dm:Nat} {M:List (Int×Int)}
theorem o_keysS (h:In F0 w0 w R) (i:Nat) (hA:R[i]?=some (SDM dm M)) (hs:SrtD M) (hM:M.length≤1024) :
  Calls Tryz.prog 53 #[.func (.func 110) #[] #[.pointer (some ⟨w.heap.size,0,none⟩)]] (w.alloc (.cells #[.map (some dm)] 113)) fun e w'=>∃ a cap,e=.returned (.slice a M.length cap)∧In F0 w0 w' (RowA 3 1 (.slice a M.length cap) M.length ((M.map (·.1)).map encZ)::R):=by
 obtain⟨Fm,hbm⟩:=h.get i hA
 refine (sortedS_call hbm (srt_keys hs) hM).mono fun e w' ⟨v,ss,he,hp,hrow,hbel⟩=>?_
 have hss:ss.length=M.length:=by rw [hp.length_eq,List.length_map]
 rw [keys_srt hs hp,hss] at hrow
 obtain⟨hr1,hr2⟩:=row_new hrow
 obtain⟨a,cap,rfl,-,-,-⟩:=hr1.shape
 exact⟨a,cap,he,In.below (h.alloc (.cells #[.map (some dm)] 113)) hbel (RowA.framed _ _ _ _ _) hr1 hr2⟩
abbrev DrR (v:Value) (l:List (Int×Int)):Asrt:=RowA 125 2 v l.length ((l.map encDr).flatten)
theorem infoDrS:(Tryz.prog.info? 125).map (fun i=>(i.zero.map (fun z=>z.cells.size),i.size,i.bytes))=some (some 2,2,16):=by kernel_rfl
def ViewRel (s:StD) (sb tb dm fm:Nat) (bv pv kv:Value) (F0:List Nat) (w0:World) (R:List Asrt) (i:Value) (wr:World):Prop:=
 ∃ (k:Nat) (v:Value),k≤s.drs.length∧i=.int .i64 k∧In F0 w0 wr (DrR v (s.drs.take k)::Cells tb #[.int .i64 s.gen,pv,v,.slice none 0 0] 59::RowA 3 1 kv s.drs.length ((s.drs.map (·.1)).map encZ)::Cells sb (stC s bv dm fm) 116::BkR bv s.bks::SDM dm s.drs::SFM fm s.fls::BkR pv s.bks::R)
end
section
variable {F0:List Nat} {w0 w:World} {R:List Asrt}
theorem In.rowFull (h:In F0 w0 w R) (i:Nat) {g n:Nat} {C:Array Value} {T:TypeId} {k:Nat} (hA:R[i]?=some (Cells g C T)) (hs:C.size=n * k) (hn:n≤maxLen):In F0 w0 w (R.set i (RowA T k (.slice (some ⟨g,0,none⟩) n n) n C.toList)):=
 h.imp i hA (RowA.framed _ _ _ _ _) fun F hF=>⟨by rw [hF.1];simp [Value.ownBlock],by simp [hs],Or.inr ⟨g,n,C,rfl,Nat.zero_le _,hF.2,Nat.le_refl _,hn,hs,by rw [List.take_of_length_le (by simp [hs])]⟩⟩
abbrev encN (r:Rec):List Value:=encRL r (.slice none 0 0)
def recsV (pv:Value):List Rec→List Value
 | []=>[]
 | r::l=>encRL r pv++(l.map encN).flatten
theorem recsV_snoc (pv:Value) (r x:Rec) (l:List Rec):recsV pv (r::l)++encN x=recsV pv (r::(l++[x])):=by simp [recsV]
theorem recsV_at {pv:Value} {l:List Rec} {i:Nat} {x:Rec} (hx:l[i]?=some x):∀ j,j < 14→(recsV pv l)[i * 14+j]?=(encRL x (if i=0 then pv else .slice none 0 0))[j]?:=by
 intro j hj
 cases l with
 | nil=>simp at hx
 | cons r l=>
  show (encRL r pv++(l.map encN).flatten)[i * 14+j]?=_
  cases i with
  | zero=>
   simp at hx;subst hx
   rw [if_pos rfl,List.getElem?_append_left (by show 0 * 14+j < 14;omega)]
   simp only [Nat.zero_mul,Nat.zero_add]
  | succ i=>
   have hx':l[i]?=some x:=by simpa using hx
   rw [if_neg (by omega),List.getElem?_append_right (by show 14≤(i+1) * 14+j;omega)]
   have e:(i+1) * 14+j - (encRL r pv).length=i * 14+j:=by show (i+1) * 14+j - 14=_;omega
   rw [e]
   exact flat_at (enc:=encN) (k:=14) (fun _=>rfl) hx' j hj
end
section
variable {F0:List Nat} {w0 w:World} {R:List Asrt}
theorem infoRec:(Tryz.prog.info? 39).map (fun i=>(i.zero.map (fun z=>z.cells.size),i.size,i.bytes))=some (some 14,14,120):=by kernel_rfl
theorem rec_one (r:Rec):∀ u∈encN r,u.oneCell'=true:=by
 intro u hu
 simp only [List.mem_cons,List.not_mem_nil,or_false] at hu
 rcases hu with rfl | rfl | rfl | rfl | rfl | rfl | rfl | rfl | rfl | rfl | rfl | rfl | rfl | rfl <;> rfl
def RecRel1 (s:StD) (g:Nat) (A:Option Addr) (a:Nat) (D:Option Addr) (d:Nat) (F:Option Addr) (f:Nat) (pv:Value) (F0:List Nat) (w0:World) (R:List Asrt) (v i:Value) (wr:World):Prop:=
 ∃ (k:Nat) (ra:Option Addr) (rc:Nat),v=.slice ra (k+1) rc∧k≤s.drs.length∧i=.int .i64 k∧In F0 w0 wr (RowA 39 14 (.slice ra (k+1) rc) (k+1) (recsV pv (recGen s::(s.drs.take k).map recDr))::BkR pv s.bks::Cells g #[.int .i64 s.gen,.slice A s.bks.length a,.slice D s.drs.length d,.slice F s.fls.length f] 59::R)
def RecRel2 (s:StD) (g:Nat) (A:Option Addr) (a:Nat) (D:Option Addr) (d:Nat) (F:Option Addr) (f:Nat) (pv:Value) (F0:List Nat) (w0:World) (R:List Asrt) (v i:Value) (wr:World):Prop:=
 ∃ (k:Nat) (ra:Option Addr) (rc:Nat),v=.slice ra (s.drs.length+1+k) rc∧k≤s.fls.length∧i=.int .i64 k∧In F0 w0 wr (RowA 39 14 (.slice ra (s.drs.length+1+k) rc) (s.drs.length+1+k) (recsV pv (recGen s::(s.drs.map recDr++(s.fls.take k).map recFl)))::BkR pv s.bks::Cells g #[.int .i64 s.gen,.slice A s.bks.length a,.slice D s.drs.length d,.slice F s.fls.length f] 59::R)
theorem o_strecs {s:StD} {A D F:Option Addr} {a d f:Nat} (v:AStV F0 w0 R s A D F) (hn:A=none→a=0) (lb:s.bks.length≤1000) (ld:s.drs.length≤1000) (lf:s.fls.length≤1000) (h:In F0 w0 w R):Calls Tryz.prog 148 #[agSt s A a D d F f] w fun e w'=>∃ v pv,e=.returned v∧In F0 w0 w' (RowA 39 14 v (recsSt s).length (recsV pv (recsSt s))::BkR pv s.bks::R):=by
 obtain⟨w1,hw1⟩:∃ w1,w1=w.alloc (.cells #[.int .i64 s.gen,.slice A s.bks.length a,.slice D s.drs.length d,.slice F s.fls.length f] 59):=⟨_,rfl⟩
 have h1:=h.cells #[.int .i64 s.gen,.slice A s.bks.length a,.slice D s.drs.length d,.slice F s.fls.length f] 59
 rw [← hw1] at h1
 have c0:w1.cell? ⟨w.heap.size,0,none⟩=some (.int .i64 s.gen)∧w1.cell? ⟨w.heap.size,1,none⟩=some (.slice A s.bks.length a):=⟨cell_of (h1.block 0 rfl) rfl,cell_of (h1.block 0 rfl) rfl⟩
 have K1:Hid (Calls Tryz.prog 52 #[.slice A s.bks.length a] w1.drew fun e w'=>∃ v,e=.returned v∧In F0 w0 w' (BkR v s.bks::Cells w.heap.size #[.int .i64 s.gen,.slice A s.bks.length a,.slice D s.drs.length d,.slice F s.fls.length f] 59::R)):=Lib.hid (o_bkclone (h1.drewN 1) hn (v.bks _ (h1.drewN 1).drop) (Nat.le_trans lb (by decide)))
 have HW:=Lib.hid hw1
 clear h h1 hw1
 go_enter Tryz.func148,Tryz.ntmps148
 go_wp2_with fail
 rw [← HW.out]
 clear HW
 generalize w.heap.size=g at *
 go_region_held3 (fun w'=>w'.cell? ⟨g,0,none⟩=some (.int .i64 s.gen)∧w'.cell? ⟨g,1,none⟩=some (.slice A s.bks.length a)) (first | exact hz | exact c0 | go_keep)
  (first
   | (go_at_call 52
      refine K1.out.mono ?_
      rintro e w2 ⟨pv,rfl,g2⟩
      obtain⟨Fp,rp⟩:=g2.get 0 rfl
      obtain⟨pa,pc,rfl,-,-,-⟩:=RowA.shape rp
      have hz:w2.cell? ⟨g,0,none⟩=some (.int .i64 s.gen)∧w2.cell? ⟨g,1,none⟩=some (.slice A s.bks.length a):=⟨cell_of (g2.block 1 rfl) rfl,cell_of (g2.block 1 rfl) rfl⟩
      have G2:=Lib.hid g2
      clear g2 rp))
 have g3:=(G2.out.cells #[.int .i64 3,.int .u32 0,.int .u32 0,.int .i64 0,.int .i64 0,.int .i64 0,.int .i64 0,.int .i64 0,.int .i64 0,.int .i64 s.gen,.slice pa s.bks.length pc,.int .i64 0,.int .i64 0,.int .i64 0] 39).rowFull 0 (n:=1) (k:=14) rfl (by rfl) (by decide)
 have HR:Hid (RecRel1 s g A a D d F f (.slice pa s.bks.length pc) F0 w0 R (.slice (some ⟨w2.heap.size,0,none⟩) 1 1) (.int .i64 0) (w2.alloc (.cells #[.int .i64 3,.int .u32 0,.int .u32 0,.int .i64 0,.int .i64 0,.int .i64 0,.int .i64 0,.int .i64 0,.int .i64 0,.int .i64 s.gen,.slice pa s.bks.length pc,.int .i64 0,.int .i64 0,.int .i64 0] 39))):=Lib.hid ⟨0,_,_,rfl,Nat.zero_le _,rfl,g3⟩
 have c2:(w2.alloc (.cells #[.int .i64 3,.int .u32 0,.int .u32 0,.int .i64 0,.int .i64 0,.int .i64 0,.int .i64 0,.int .i64 0,.int .i64 0,.int .i64 s.gen,.slice pa s.bks.length pc,.int .i64 0,.int .i64 0,.int .i64 0] 39)).cell? ⟨g,2,none⟩=some (.slice D s.drs.length d):=cell_of (g3.block 2 rfl) rfl
 clear g3 G2 hz c0 K1
 go_wp2_with fail
 go_loopw [3,18] (RecRel1 s g A a D d F f (.slice pa s.bks.length pc) F0 w0 R) (fun _ k _=>s.drs.length - (intOf k).toNat)
 case atStart=>exact HR.out
 case round=>
  obtain⟨k,ra,rc,rfl,hk,rfl,hio⟩:=hrel
  clear HR c2
  by_cases hlt:k < s.drs.length
  ·obtain⟨x,hx⟩:∃ x,s.drs[k]?=some x:=⟨s.drs[k],List.getElem?_eq_getElem hlt⟩
   obtain⟨gd,od,rfl,sc⟩:=(v.drs wr hio.drop.drop.drop).plain (by omega) (by decide)
   have e0:wr.cell? ⟨gd,od+k * 2,none⟩=some (.int .i64 x.1):=by
    have:=sc (k * 2+0) _ (by rw [flat_at (enc:=encDr) (k:=2) (fun _=>rfl) hx 0 (by decide)];rfl)
    rwa [← Nat.add_assoc] at this
   have e1:wr.cell? ⟨gd,od+k * 2+1,none⟩=some (.int .i64 x.2):=by
    have:=sc (k * 2+1) _ (by rw [flat_at (enc:=encDr) (k:=2) (fun _=>rfl) hx 1 (by decide)];rfl)
    rwa [← Nat.add_assoc] at this
   have hlt':(k:Int) < (s.drs.length:Int):=Int.ofNat_lt.2 hlt
   have hw2:wrap64 ((k:Int)+1)=(k:Int)+1:=by unfold wrap64;omega
   have HO:=Lib.hid hio
   have HX:=Lib.hid hx
   have HK:Hid (k+1≤1000000000):=Lib.hid (by omega)
   have HV:=Lib.hid v
   clear hio hx hlt hk sc v lb ld lf hn
   have Hr:Hid (recsV (.slice pa s.bks.length pc) (recGen s::(s.drs.map recDr).take k)++encN (recDr x)=recsV (.slice pa s.bks.length pc) (recGen s::(s.drs.take (k+1)).map recDr)):=Lib.hid (by rw [recsV_snoc,List.take_add_one,HX.out,← List.map_take];simp)
   go_wp2_with (at_builtin;refine append_elem' ((HO.out.alloc _).alloc _) 0 rfl rfl (.tmp 22) (.tmp 28) 40 rfl Tryz.underlying40 infoRec (by decide) (by decide) rfl _ #[.int .i64 4,.int .u32 0,.int .u32 0,.int .i64 0,.int .i64 0,.int .i64 0,.int .i64 0,.int .i64 0,.int .i64 0,.int .i64 0,.slice none 0 0,.int .i64 x.1,.int .i64 x.2,.int .i64 0] rfl (hp_alloc_at (by simp)) rfl (fun u hu=>rec_one (recDr x) u hu) HK.out ?_)
   intro v' w3 ho
   have HR:Hid (RecRel1 s g A a (some ⟨gd,od,none⟩) d F f (.slice pa s.bks.length pc) F0 w0 R v' (.int .i64 ((k:Int)+1)) w3):=by
    replace ho:In F0 w0 w3 (RowA 39 14 v' (k+1+1) (recsV (.slice pa s.bks.length pc) (recGen s::(s.drs.map recDr).take k)++encN (recDr x))::BkR (.slice pa s.bks.length pc) s.bks::Cells g #[.int .i64 s.gen,.slice A s.bks.length a,.slice (some ⟨gd,od,none⟩) s.drs.length d,.slice F s.fls.length f] 59::R):=ho
    rw [Hr.out] at ho
    obtain⟨Fn,rn⟩:=ho.get 0 rfl
    obtain⟨na,nc,rfl,-,-,-⟩:=RowA.shape rn
    exact Lib.hid ⟨k+1,na,nc,rfl,(List.getElem?_eq_some_iff.1 HX.out).1,by rw [Int.natCast_add];rfl,ho⟩
   have HM:=Lib.hid (meas_lt hlt')
   clear ho HO HK HX Hr
   go_wp2_with fail
   go_roundw
   case rel=>(try rw [hw2]);exact HR.out
   case measure=>(try rw [hw2]);exact HM.out
  ·have hkl:k=s.drs.length:=by omega
   subst hkl
   rw [List.take_length] at hio
   have c3:wr.cell? ⟨g,3,none⟩=some (.slice F s.fls.length f):=cell_of (hio.block 2 rfl) rfl
   have HR2:Hid (RecRel2 s g A a D d F f (.slice pa s.bks.length pc) F0 w0 R (.slice ra (s.drs.length+1) rc) (.int .i64 0) wr):=Lib.hid ⟨0,ra,rc,rfl,Nat.zero_le _,rfl,by rw [List.take_zero,List.map_nil,List.append_nil];exact hio⟩
   have hge:decide ((s.drs.length:Int) < (s.drs.length:Int))=false:=decide_eq_false (by omega)
   clear hio hlt hk
   go_wp2_with fail
   go_loopw [3,34] (RecRel2 s g A a D d F f (.slice pa s.bks.length pc) F0 w0 R) (fun _ k _=>s.fls.length - (intOf k).toNat)
   case atStart=>exact HR2.out
   case round=>
    obtain⟨k,ra,rc,rfl,hk,rfl,hio⟩:=hrel
    clear HR2
    by_cases hlt:k < s.fls.length
    ·obtain⟨x,hx⟩:∃ x,s.fls[k]?=some x:=⟨s.fls[k],List.getElem?_eq_getElem hlt⟩
     obtain⟨gf,fo,rfl,sc⟩:=(v.fls wr hio.drop.drop.drop).plain (by omega) (by decide)
     have c0:wr.cell? ⟨gf,fo+k * 8,none⟩=some (.int .u32 x.t.src):=by
      have:=sc (k * 8+0) _ (by rw [flat_at (enc:=encFs) (k:=8) (fun _=>rfl) hx 0 (by decide)];rfl)
      rwa [← Nat.add_assoc] at this
     have c1:wr.cell? ⟨gf,fo+k * 8+1,none⟩=some (.int .u32 x.t.dst):=by
      have:=sc (k * 8+1) _ (by rw [flat_at (enc:=encFs) (k:=8) (fun _=>rfl) hx 1 (by decide)];rfl)
      rwa [← Nat.add_assoc] at this
     have c2:wr.cell? ⟨gf,fo+k * 8+2,none⟩=some (.int .i64 x.t.proto):=by
      have:=sc (k * 8+2) _ (by rw [flat_at (enc:=encFs) (k:=8) (fun _=>rfl) hx 2 (by decide)];rfl)
      rwa [← Nat.add_assoc] at this
     have c3:wr.cell? ⟨gf,fo+k * 8+3,none⟩=some (.int .i64 x.t.sport):=by
      have:=sc (k * 8+3) _ (by rw [flat_at (enc:=encFs) (k:=8) (fun _=>rfl) hx 3 (by decide)];rfl)
      rwa [← Nat.add_assoc] at this
     have c4:wr.cell? ⟨gf,fo+k * 8+4,none⟩=some (.int .i64 x.t.dport):=by
      have:=sc (k * 8+4) _ (by rw [flat_at (enc:=encFs) (k:=8) (fun _=>rfl) hx 4 (by decide)];rfl)
      rwa [← Nat.add_assoc] at this
     have c5:wr.cell? ⟨gf,fo+k * 8+5,none⟩=some (.int .i64 x.bk):=by
      have:=sc (k * 8+5) _ (by rw [flat_at (enc:=encFs) (k:=8) (fun _=>rfl) hx 5 (by decide)];rfl)
      rwa [← Nat.add_assoc] at this
     have c6:wr.cell? ⟨gf,fo+k * 8+6,none⟩=some (.int .i64 x.gen):=by
      have:=sc (k * 8+6) _ (by rw [flat_at (enc:=encFs) (k:=8) (fun _=>rfl) hx 6 (by decide)];rfl)
      rwa [← Nat.add_assoc] at this
     have c7:wr.cell? ⟨gf,fo+k * 8+7,none⟩=some (.int .i64 x.seen):=by
      have:=sc (k * 8+7) _ (by rw [flat_at (enc:=encFs) (k:=8) (fun _=>rfl) hx 7 (by decide)];rfl)
      rwa [← Nat.add_assoc] at this
     have hlt':(k:Int) < (s.fls.length:Int):=Int.ofNat_lt.2 hlt
     have hw2:wrap64 ((k:Int)+1)=(k:Int)+1:=by unfold wrap64;omega
     have HO:=Lib.hid hio
     have HX:=Lib.hid hx
     have HK:Hid (s.drs.length+1+k≤1000000000):=Lib.hid (by omega)
     have Hr:Hid (recsV (.slice pa s.bks.length pc) (recGen s::(s.drs.map recDr++(s.fls.map recFl).take k))++encN (recFl x)=recsV (.slice pa s.bks.length pc) (recGen s::(s.drs.map recDr++(s.fls.take (k+1)).map recFl))):=Lib.hid (by rw [recsV_snoc,List.take_add_one,hx,← List.map_take];simp)
     clear hio hx hlt hk sc v lb ld lf hn
     go_wp2_with (at_builtin;refine append_elem' ((HO.out.alloc _).alloc _) 0 rfl rfl (.tmp 38) (.tmp 41) 40 rfl Tryz.underlying40 infoRec (by decide) (by decide) rfl _ #[.int .i64 1,.int .u32 x.t.src,.int .u32 x.t.dst,.int .i64 x.t.proto,.int .i64 x.t.sport,.int .i64 x.t.dport,.int .i64 x.bk,.int .i64 x.gen,.int .i64 x.seen,.int .i64 0,.slice none 0 0,.int .i64 0,.int .i64 0,.int .i64 0] rfl (hp_alloc_at (by simp)) rfl (fun u hu=>rec_one (recFl x) u hu) HK.out ?_)
     intro v' w3 ho
     have HR:Hid (RecRel2 s g A a D d (some ⟨gf,fo,none⟩) f (.slice pa s.bks.length pc) F0 w0 R v' (.int .i64 ((k:Int)+1)) w3):=by
      replace ho:In F0 w0 w3 (RowA 39 14 v' (s.drs.length+1+k+1) (recsV (.slice pa s.bks.length pc) (recGen s::(s.drs.map recDr++(s.fls.map recFl).take k))++encN (recFl x))::BkR (.slice pa s.bks.length pc) s.bks::Cells g #[.int .i64 s.gen,.slice A s.bks.length a,.slice D s.drs.length d,.slice (some ⟨gf,fo,none⟩) s.fls.length f] 59::R):=ho
      rw [Hr.out] at ho
      obtain⟨Fn,rn⟩:=ho.get 0 rfl
      obtain⟨na,nc,rfl,-,-,-⟩:=RowA.shape rn
      exact Lib.hid ⟨k+1,na,nc,rfl,(List.getElem?_eq_some_iff.1 HX.out).1,by rw [Int.natCast_add];rfl,ho⟩
     have HM:=Lib.hid (meas_lt hlt')
     clear ho HO HK HX Hr
     go_wp2_with fail
     go_roundw
     case rel=>(try rw [hw2]);exact HR.out
     case measure=>(try rw [hw2]);exact HM.out
    ·have hkl:k=s.fls.length:=by omega
     subst hkl
     rw [List.take_length] at hio
     have hge:decide ((s.fls.length:Int) < (s.fls.length:Int))=false:=decide_eq_false (by omega)
     have hlen:s.drs.length+1+s.fls.length=(recsSt s).length:=by simp [recsSt];omega
     have G:Hid (In F0 w0 wr (RowA 39 14 (.slice ra (s.drs.length+1+s.fls.length) rc) (recsSt s).length (recsV (.slice pa s.bks.length pc) (recsSt s))::BkR (.slice pa s.bks.length pc) s.bks::R)):=Lib.hid (by
      have:=hio.sel2 (R1:=[_,_,_]) [0,1] (by decide) rfl
      rw [← hlen];exact this)
     clear hio hlt hk hlen
     go_wp2_with fail
     go_ret
     exact⟨_,_,rfl,G.out⟩
end
attribute [local go_sem] Oper.semAt_some
theorem values_call (mb:Option Nat) (w:World):Calls Tryz.prog 56 #[.map mb] w fun e w'=>e=.returned (.func (.func 113) #[] #[.pointer (some ⟨w.heap.size,0,none⟩)])∧w'=w.alloc (.cells #[.map mb] 114):=by
 go_enter Tryz.func56,Tryz.ntmps56
 go_wp2_with fail
 go_ret
 exact⟨rfl,rfl⟩
theorem values_stops (F:Fence) (n:Nat) (hf:F.fn 113) (hro:F.round=none) (hn:1≤n) (Bm bm:Nat) (L:List Fl) (w:World) (hBm:Bm < w.heap.size) (hm:w.cell? ⟨Bm,0,none⟩=some (.map (some bm)))
  (hM:MapR Tryz.prog 34 w bm (tabR svT svF L) L.length) (hk:(L.map svT).Nodup) :
  SeqStopsK F n Tryz.prog 113 #[.pointer (some ⟨Bm,0,none⟩)] (fun f:Fl=>#[.agg (encF f)]) KeepsWalks (fun xs=>xs.Perm L) (fun _=>True) L.length w:=fun l J Jx W hW hJ hJx hY h0=>by
 have hm':W.cell? ⟨Bm,0,none⟩=some (.map (some bm)):=(hW.cell (p:=⟨Bm,0,none⟩) hBm).trans hm
 have hM':MapR Tryz.prog 34 W bm (tabR svT svF L) L.length:=hM.keep (hW.block _ hM.lt)
 obtain⟨o,hrun,hit⟩:=iter_range hM' hk Tryz.underlying114
 have HJ0:Hid (J [] (W.alloc o)):=Lib.hid (hJ [] W _ none h0 (World.grownBy_alloc W o none) (fun r e=>by cases e))
 have HI0:=Lib.hid hit
 have HY:=Lib.hid hY
 have HJ:=Lib.hid hJ
 clear hY hJ hJx h0 hM hM' hm hit hW hk
 refine callsIn_of_wp Tryz.func113 rfl hf ?_ hro
 simp only [Tryz.ntmps113,List.size_toArray,List.length_cons,List.length_nil,Nat.reduceAdd,Nat.reduceSub,Array.replicate_succ,Array.replicate_zero,List.push_toArray,List.append_toArray,List.nil_append,List.cons_append]
 gi_wp2
 clear hrun hm'
 gi_loopw [4] (fun _ wr=>∃ done,IterW Tryz.prog 34 svT svF bm W.heap.size L done wr∧J done wr) (fun _ wr=>wr.rangeLeft bm W.heap.size)
 case atStart=>exact⟨[],HI0.out,HJ0.out⟩
 case round=>
  obtain⟨done,hi,hj⟩:=hrel
  clear HI0 HJ0
  have HLI:=Lib.hid hi
  rcases iter_next hi 0 with ⟨hp,hrun⟩|⟨y,hy,hyd,w',hrun,hi2,hg,hsz,hlt,hen⟩
  ·have HR:Hid (∃ xs:List Fl,xs.Perm L∧J xs wr):=Lib.hid ⟨done,hp,hj⟩
   clear hi hj hp
   gi_wp2
   go_end0
   exact⟨⟨_,rfl⟩,.inl HR.out⟩
  ·have hlen:done.length < L.length:=by
    have:=(List.Nodup.length_le_of_subset hi2.once hi2.sub)
    simp at this;omega
   have hj2:J done w':=HJ.out done wr w' (some W.heap.size) hj hg (fun r e=>by cases e;exact⟨Nat.le_refl _,hi.walk⟩)
   have hj3:J done (w'.alloc (.cells (encF y) 36)):=HJ.out done w' _ none hj2 (World.grownBy_alloc _ _ none) (fun r e=>by cases e)
   obtain⟨fn,tmps,assign,body,hyd2,hR⟩:=HY.out done y _ hj3 hlen
   have HI2:=Lib.hid ((hi2.of_walks (KeepsWalks.alloc w' (.cells (encF y) 36))))
   have HLT:=Lib.hid hlt
   have HR:=Lib.hid hR
   clear hi hj hj2 hj3 hi2 hg hsz hlt hR hyd hy hlen
   gi_wp2
   refine HR.out.mono ?_
   rintro e W3 (⟨rfl,hJ3,hk3⟩|⟨rfl,hJx3⟩)
   ·have HN:=Lib.hid (HI2.out.1.of_walks hk3)
    have HJ3:=Lib.hid hJ3
    clear hJ3 hk3
    gi_wp2
    go_roundw
    case rel=>exact⟨_,HN.out.1,HJ3.out⟩
    case measure=>rw [HN.out.2,HI2.out.2];exact HLT.out
   ·have HX:=Lib.hid hJx3
    clear hJx3
    gi_wp2
    refine bodyPost_ret (results_none rfl _ _ _) rfl ?_
    exact⟨⟨_,rfl⟩,.inr ⟨_,trivial,HX.out⟩⟩
def flatF (L:List Fl):List Value:=(L.map (fun x=>(encF x).toList)).flatten
theorem flatF_snoc (L:List Fl) (x:Fl):flatF L++(encF x).toList=flatF (L++[x]):=by simp [flatF]
attribute [local go_sem] Oper.semAt_some
theorem boxK_own {β:Type} (Bx:Nat) (T:TypeId) (f:β→Array Value):Go.Own (fun s W=>W.heap[Bx]?=some (.cells (f s) T (0,0))):=fun s X Y row h hg hrow=>by
 have hlt:=hp_lt h
 refine (hg.block Bx hlt (fun e=>?_)).trans h
 obtain⟨o,ho,hc⟩:=hrow Bx e.symm
 rw [h] at ho;cases ho;cases hc
def ColI (n₀ B:Nat) (w:World) (pre:List Fl) (W:World):Prop:=(∃ v,Boxed W B 57 v∧W.ownsRow n₀ 36 8 v pre.length (flatF pre)∧True)∧Below n₀ w W
theorem appseq_in (F:Fence) (n:Nat) (hf:F.fn 152) (hg:F.fn 113) (hro:F.round=none) (hn:4≤n) (Bm:Nat) (L:List Fl) (w:World) (hL:L.length≤1000000)
  (hseq:∀ w',Below w.heap.size w w'→SeqStopsK F (n - 1) Tryz.prog 113 #[.pointer (some ⟨Bm,0,none⟩)] (fun f:Fl=>#[.agg (encF f)]) KeepsWalks (fun xs=>xs.Perm L) (fun _=>True) L.length w') :
  CallsIn F n Tryz.prog 152 #[.slice none 0 0,.func (.func 113) #[] #[.pointer (some ⟨Bm,0,none⟩)]] w fun e w'=>∃ v xs,e=.returned v∧xs.Perm L∧w'.ownsRow w.heap.size 36 8 v xs.length (flatF xs)∧Below w.heap.size w w':=by
 have h1:1≤n:=by omega
 have HS:=Lib.hid hseq
 clear hseq
 refine callsIn_of_wp_marks Tryz.func152 rfl hf ?_ hro
 simp only [Tryz.ntmps152,List.size_toArray,List.length_cons,List.length_nil,Nat.reduceAdd,Nat.reduceSub,Array.replicate_succ,Array.replicate_zero,List.push_toArray,List.append_toArray,List.nil_append,List.cons_append]
 gi_wp2
 have bB:=Boxed.new w 57 (.slice none 0 0)
 have hB0:Below w.heap.size w (w.alloc (.cells #[.slice none 0 0] 57)):=(Below.refl _ w).alloc (Nat.le_refl _) _
 have hsz:(w.alloc (.cells #[.slice none 0 0] 57)).heap.size=w.heap.size+1:=by simp
 have hrow0:(w.alloc (.cells #[.slice none 0 0] 57)).ownsRow w.heap.size 36 8 (.slice none 0 0) 0 (flatF []):=World.ownsRow_nil _ _ _ _
 obtain⟨W0,hW0⟩:∃ W0,w.alloc (.cells #[.slice none 0 0] 57)=W0:=⟨_,rfl⟩
 rw [hW0] at bB hB0 hsz hrow0 ⊢
 clear hW0
 obtain⟨i0,hi,hz0,hz1,hz2⟩:=info_parts (P:=Tryz.prog) (e:=36) (z:=.agg #[.int .u32 0,.int .u32 0,.int .i64 0,.int .i64 0,.int .i64 0,.int .i64 0,.int .i64 0,.int .i64 0]) (size:=8) (bytes:=56) (by kernel_rfl)
 have hFX:Go.Own (fun (s:List Fl) W=>∃ v,Boxed W w.heap.size 57 v∧W.ownsRow w.heap.size 36 8 v s.length (flatF s)∧True):=holdsRow_own w.heap.size w.heap.size 57 36 8 (fun s=>s.length) flatF (fun _ _=>True)
 refine wpIn_rangeFunc_ownH hro h1 (gf:=113) (lb:=#[.pointer (some ⟨Bm,0,none⟩)]) rfl hg (enters_of Tryz.func113 (by kernel_rfl) rfl)
  (HS.out W0 hB0) walksK_t walksK_b (Below.refl _ _) (fun _=>rfl)
  (ColI w.heap.size w.heap.size w)
  (fun _ _ _=>False)
  (OwnFrom.and (Go.Own.from hFX _) (ownFrom_below (Nat.le_refl _) (by omega)))
  (fun _ _ _ _ _ hs _ _=>hs)
  ⟨⟨_,bB,hrow0,trivial⟩,hB0⟩
  (fun x a' W=>∃ Bx,w.heap.size < Bx∧W.heap[Bx]?=some (.cells (encF x) 36 (0,0))∧a'={ tmps:=#[.slice none 0 0,.func (.func 113) #[] #[.pointer (some ⟨Bm,0,none⟩)],.pointer (some ⟨w.heap.size,0,none⟩),undef,.slice none 0 0,.pointer (some ⟨Bx,0,none⟩),.func (.func 113) #[] #[.pointer (some ⟨Bm,0,none⟩)],.agg (encF x),undef,undef,undef,undef,undef],defers:=[] })
  (fun x a' _ X Y row hs hg hr=>by obtain⟨Bx,h1,h2,h3⟩:=hs;exact⟨Bx,h1,boxK_own Bx 36 (fun (_:Unit)=>encF x) () X Y row h2 hg (fun r e=>(hr r e).2),h3⟩)
  ?assign ?body ?done ?stop
 case assign=>
  rintro l pre x W K ⟨⟨v,bv,hr,-⟩,hB⟩ hK
  have hlt:=bv.lt
  have HK:=Lib.hid (hK _ (W.alloc (.cells (encF x) 36)) ((KeepsOthers.alloc _ _).from _) (KeepsWalks.alloc _ _) ⟨⟨v,bv.alloc _,hr.alloc _,trivial⟩,hB.alloc hB.size _⟩ ⟨W.heap.size,hlt,hp_alloc_new,rfl⟩)
  clear hK bv hr hB HS hi hz0 hz1 hz2 hFX
  gi_wp2
  exact HK.out
 case body=>
  rintro l pre x a' W hl ⟨r,hr⟩ ⟨⟨v,bv,hrow,-⟩,hB⟩ ⟨Bx,hBx,bX,rfl⟩ hlt
  have hbv:=bv.cell
  have hbf:=bv.frozen
  have x0:=cell_of (o:=0) bX rfl
  have x1:=cell_of (o:=1) bX rfl
  have x2:=cell_of (o:=2) bX rfl
  have x3:=cell_of (o:=3) bX rfl
  have x4:=cell_of (o:=4) bX rfl
  have x5:=cell_of (o:=5) bX rfl
  have x6:=cell_of (o:=6) bX rfl
  have x7:=cell_of (o:=7) bX rfl
  have HBV:=Lib.hid bv
  have HROW:=Lib.hid hrow
  have HB:=Lib.hid hB
  have HI:=Lib.hid hi
  have hsz1:w.heap.size≤W.heap.size:=hB.size
  have hbl:w.heap.size < W.heap.size:=bv.lt
  clear bv hrow hB bX hFX HS hr
  gi_wp2_with (gi_at_builtin;refine wpListIn_append_own _ rfl _ _ 57 rfl w.heap.size 36 i0 _ 8 56 Tryz.underlying57 HI.out hz0 hz1 hz2 rfl (by decide) _ _ _ rfl (HROW.out.alloc _) ⟨W.heap.size,0,none⟩ 1 1 (encF x).toList rfl rfl (fun j u hu=>by rw [add_at,Nat.zero_add];exact cell_of hp_alloc_new (by rw [← hu,Array.getElem?_toList])) (fun u hu=>by simp at hu;rcases hu with rfl | rfl | rfl | rfl | rfl | rfl | rfl | rfl <;> rfl) (by unfold maxLen;omega) (by omega) (by simp;omega) ?_;intro v' w1 hown' hgrow _;obtain⟨g',cap',rfl⟩:=ownsRow_succ hown';obtain⟨hv1,hv2,hr2,hk2,hb2⟩:=HBV.out.appended (by decide) HROW.out HB.out.size (Nat.le_refl _) hown' hgrow;have hc1:=hv1.cell;have hf1:=hv1.frozen)
  have hr3:(w1.setCell ⟨w.heap.size,0,none⟩ (.slice (some ⟨g',0,none⟩) (pre.length+1) cap')).ownsRow w.heap.size 36 8 (.slice (some ⟨g',0,none⟩) (pre.length+1) cap') (pre++[x]).length (flatF (pre++[x])):=by
   rw [← flatF_snoc,show (pre++[x]).length=pre.length+1 by simp];exact hr2
  exact⟨hk2.from _,⟨hk2.size,fun k o ho hw=>hk2.same k o ho (Obj.not_cells_of_walk hw)⟩,⟨_,hv2,hr3,trivial⟩,HB.out.trans hb2⟩
 case done=>
  rintro D xs W hD hp ⟨⟨v,bv,hrow,-⟩,hB⟩ hK
  have hbv:=bv.cell
  have HF:Hid (w.heap.size≤D∧xs.Perm L∧W.ownsRow w.heap.size 36 8 v xs.length (flatF xs)∧Below w.heap.size w W∧W.heap[D]?=some (.deferred (some []))):=Lib.hid ⟨by omega,hp,hrow,hB,hK⟩
  clear hD hp hrow hB hK bv hFX HS hi hz0 hz1 hz2
  gi_wp2
  obtain⟨hD,hp,hrow,hB,hK⟩:=HF.out
  refine⟨by simp,.inl ⟨_,_,rfl,run_takeDeferred hK,?_⟩⟩
  exact⟨_,results_tmp rfl _ _ _,v,xs,rfl,hp,ownsRow_putObj hrow _ hK rfl,hB.trans (belowK_b (w:=w) (Nat.le_refl _) W D _ _ hD hK rfl rfl)⟩
 case stop=>
  rintro D c pre W _ _ h _
  exact h.elim
def ColPost (L:List Fl) (w:World) (e:Ending) (w':World):Prop:=∃ v xs,e=.returned v∧xs.Perm L∧w'.ownsRow w.heap.size 36 8 v xs.length (flatF xs)∧Below w.heap.size w w'
theorem collect_call (Bm bm:Nat) (L:List Fl) (w:World) (hL:L.length≤1000000) (hBm:Bm < w.heap.size) (hm:w.cell? ⟨Bm,0,none⟩=some (.map (some bm))) (hM:MapR Tryz.prog 34 w bm (tabR svT svF L) L.length) (hk:(L.map svT).Nodup) :
  Calls Tryz.prog 111 #[.func (.func 113) #[] #[.pointer (some ⟨Bm,0,none⟩)]] w (ColPost L w):=by
 have hA:=(callsIn_wide (n:=5)).1 (appseq_in Fence.wide 5 trivial trivial rfl (by omega) Bm L w hL (fun w' hb=>values_stops Fence.wide 4 trivial rfl (by omega) Bm bm L w' (by have:=hb.size;omega) ((hb.cell (p:=⟨Bm,0,none⟩) hBm).trans hm) (hM.keep (hb.block _ hM.lt)) hk))
 have HA:=Lib.hid hA
 clear hA hM hm hk
 go_enter Tryz.func111,Tryz.ntmps111
 go_wp2_with fail
 refine HA.out.mono ?_
 rintro e w' ⟨v,xs,rfl,hp⟩
 have HP:=Lib.hid hp
 clear hp
 go_wp2_with fail
 go_ret
 exact⟨v,xs,rfl,HP.out⟩
section
variable {α:Type} [Inhabited α] {enc:α→List Value} {k:Nat}
theorem flatten_get {k:Nat} (hk:0 < k):∀ {L:List (List Value)} (h:∀ x∈L,x.length=k) (t:Nat),L.flatten[t]?=(L[t / k]?).bind (fun x=>x[t % k]?)
 | [],_,t=>by simp
 | x::r,h,t=>by
  have hx:=h x (by simp)
  have ih:=flatten_get hk (L:=r) (fun y hy=>h y (List.mem_cons_of_mem _ hy))
  rw [List.flatten_cons]
  by_cases ht:t < k
  ·rw [List.getElem?_append_left (by omega),Nat.div_eq_of_lt ht,Nat.mod_eq_of_lt ht];simp
  ·rw [List.getElem?_append_right (by omega),hx,ih]
   have e1:t / k=(t - k) / k+1:=by
    have:=Nat.sub_add_cancel (show k≤t by omega)
    rw [← this,Nat.add_div_right _ hk,Nat.add_sub_cancel]
   have e2:t % k=(t - k) % k:=by
    have:=Nat.sub_add_cancel (show k≤t by omega)
    rw [← this,Nat.add_mod_right,Nat.add_sub_cancel]
   rw [e1,e2];simp
theorem flatK_list (hk:∀ x,(enc x).length=k) (h0:0 < k) (d:Array α):(flatK enc k d).toList=(d.toList.map enc).flatten:=by
 apply List.ext_getElem?
 intro t
 rw [flatten_get h0 (fun x hx=>by obtain⟨y,_,rfl⟩:=List.mem_map.1 hx;exact hk y)]
 by_cases ht:t < d.size * k
 ·have hq:t / k < d.size:=by rw [Nat.div_lt_iff_lt_mul h0];exact ht
  have hm:t % k < k:=Nat.mod_lt _ h0
  have hE:(enc d[t / k]).length=k:=hk _
  have h1:(flatK enc k d)[t]! =(enc d[t / k]!)[t % k]!:=get_flatK enc k d t ht
  have h2:t < (flatK enc k d).size:=by rw [size_flatK];exact ht
  rw [getElem!_pos (flatK enc k d) t h2,getElem!_pos d (t / k) hq] at h1
  rw [getElem!_pos _ _ (by rw [hE];exact hm)] at h1
  rw [Array.getElem?_toList,Array.getElem?_eq_getElem h2,h1]
  rw [List.getElem?_map,Array.getElem?_toList,Array.getElem?_eq_getElem hq]
  simp only [Option.map_some,Option.bind_some]
  rw [List.getElem?_eq_getElem (by rw [hE];exact hm)]
 ·have hq:d.size≤t / k:=by
   rcases Nat.lt_or_ge (t / k) d.size with h | h
   ·rw [Nat.div_lt_iff_lt_mul h0] at h;exact absurd h ht
   ·exact h
  rw [List.getElem?_eq_none (by simp;omega),List.getElem?_eq_none (by simpa using hq)];rfl
theorem heap_sortK {w:World} {g n:Nat} {os:Array Obj} {cur:Array Value} {e:TypeId} {fr:Nat×Nat} (d:Array α) (hb:w.heap[g]?=some (.cells cur e fr)) :
  (sortWorldK enc k w g 0 n d os).heap[g]?=some (.cells (putCells id 0 (flatK enc k d) cur) e fr):=by
 have hg:g < w.heap.size:=(Array.getElem?_eq_some_iff.1 hb).1
 unfold sortWorldK
 rw [heap_grow_old _ _ (by simpa [putRowK] using hg)]
 simp [putRowK,putRow,mapBlock,Sort.ahead,Array.getElem?_modify,hb,onCells]
theorem grownBy_sortK {w:World} {g n:Nat} {os:Array Obj} (d:Array α):w.grownBy (sortWorldK enc k w g 0 n d os) (some g):=by
 unfold sortWorldK
 refine⟨rfl,rfl,rfl,by simp [putRowK],fun j hj hne=>?_⟩
 rw [heap_grow_old _ _ (by simpa [putRowK] using hj)]
 have:g≠j:=fun e=>hne (by rw [e])
 simp [putRowK,putRow,mapBlock,Sort.ahead,Array.getElem?_modify,this]
theorem take_putCellsK (cur F:Array Value) (h:F.size≤cur.size):(putCells id 0 F cur).toList.take F.size=F.toList:=by
 apply List.ext_getElem?
 intro j
 by_cases hj:j < F.size
 ·rw [List.getElem?_take_of_lt hj,Array.getElem?_toList]
  simp [putCells,hj,show j < cur.size by omega]
 ·rw [List.getElem?_take_eq_none (by omega),List.getElem?_eq_none (by simp;omega)]
theorem holdsK_row {w:World} {g:Nat} {cur:Array Value} {e:TypeId} {d:Array α} (hk:∀ x,(enc x).length=k) (h0:0 < k) (hb:w.heap[g]?=some (.cells cur e (0,0))) (ht:cur.toList.take (d.size * k)=(d.toList.map enc).flatten):HoldsK enc k w g 0 d:=by
 intro j hj
 have hj':j < d.size * k:=by simpa using hj
 refine⟨?_,by simp [World.frozen?,hb]⟩
 have h1:(cur.toList.take (d.size * k))[j]?=(flatK enc k d).toList[j]?:=by rw [ht,flatK_list hk h0]
 rw [List.getElem?_take_of_lt hj',Array.getElem?_toList,Array.getElem?_toList] at h1
 simp only [World.cell?,hb,Nat.zero_add]
 simp only [Option.isSome_none,Bool.false_eq_true,if_false]
 rw [h1,getElem!_pos (flatK enc k d) j hj,Array.getElem?_eq_getElem hj]
 rfl
theorem ownsRow_sortK {w:World} {base g cap n m:Nat} {e:TypeId} {os:Array Obj} {cur:Array Value} {d:Array α} (hk:∀ x,(enc x).length=k) (h0:0 < k) (hl:d.size=m) (hbase:base≤g) (hb:w.heap[g]?=some (.cells cur e (0,0)))
  (h1:m≤cap) (h2:cap≤maxLen) (h3:cur.size=cap * k):(sortWorldK enc k w g 0 n d os).ownsRow base e k (.slice (some ⟨g,0,none⟩) m cap) m ((d.toList.map enc).flatten):=by
 have hsz:(flatK enc k d).size=m * k:=by rw [size_flatK,hl]
 have hle:m * k≤cap * k:=Nat.mul_le_mul_right _ h1
 refine⟨?_,.inr ⟨g,cap,_,rfl,hbase,heap_sortK d hb,h1,h2,by simp [putCells,h3],?_⟩⟩
 ·rw [← flatK_list hk h0,Array.length_toList,hsz]
 ·rw [← hsz,take_putCellsK _ _ (by rw [hsz,h3];exact hle),flatK_list hk h0]
end
end Go.Proofs.YtpmmiljakbojaaaGreat
