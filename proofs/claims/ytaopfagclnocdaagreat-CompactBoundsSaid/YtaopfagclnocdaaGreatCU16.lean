/- Rows.CompactBoundsSaid -/
import Derived.Test.YtaopfagclnocdaaGreatCU15
import Derived.Test.YtaopfagclnocdaaGreatShelf
import Derived.Test.YtaopfagclnocdaaGreatCU7
import Derived.Test.YtaopfagclnocdaaGreatCU10
import Derived.Test.YtaopfagclnocdaaGreatCU5
namespace Go.Proofs.YtaopfagclnocdaaGreat
open Go.RowKit
open Go.RowKit Go.Shelf
open Go.Maps (Keyed)
set_option linter.unusedVariables false
set_option maxHeartbeats 64000000
set_option maxRecDepth 100000
section
variable {F0:List Nat} {w0 w:World} {R:List Asrt}
structure AStV (F0:List Nat) (w0:World) (R:List Asrt) (s:StD) (A D F:Option Addr):Prop where
 bks:RowV F0 w0 R A s.bks.length 3 ((s.bks.map encB).flatten)
 drs:RowV F0 w0 R D s.drs.length 2 ((s.drs.map encDr).flatten)
 fls:RowV F0 w0 R F s.fls.length 8 ((s.fls.map encFs).flatten)
abbrev agSt (s:StD) (A:Option Addr) (a:Nat) (D:Option Addr) (e:Nat) (F:Option Addr) (h:Nat):Value:=.agg #[.int .i64 s.gen,.slice A s.bks.length a,.slice D s.drs.length e,.slice F s.fls.length h]
theorem RowV.drop2 {X Y:Asrt} {A:Option Addr} {n k:Nat} {xs:List Value} (h:RowV F0 w0 R A n k xs):RowV F0 w0 (X::Y::R) A n k xs:=fun w' h'=>h w' h'.drop.drop
theorem o_stsame {s1 s2:StD} {A1 D1 F1 A2 D2 F2:Option Addr} {a1 e1 h1 a2 e2 h2:Nat} (v1:AStV F0 w0 R s1 A1 D1 F1) (v2:AStV F0 w0 R s2 A2 D2 F2) (lb:s1.bks.length≤1000000) (ld:s1.drs.length≤1000000) (lf:s1.fls.length≤1000000) (h:In F0 w0 w R) :
  Calls Tryz.prog 147 #[agSt s1 A1 a1 D1 e1 F1 h1,agSt s2 A2 a2 D2 e2 F2 h2] w fun e w'=>e=.returned (.bool (decide (s1=s2)))∧In F0 w0 w' R:=by
 obtain⟨g1,b1,d1,f1⟩:=s1
 obtain⟨g2,b2,d2,f2⟩:=s2
 obtain⟨vb1,vd1,vf1⟩:=v1
 obtain⟨vb2,vd2,vf2⟩:=v2
 simp only at vb1 vd1 vf1 vb2 vd2 vf2 lb ld lf
 have hh:In F0 w0 ((w.alloc (.cells #[.int .i64 g1,.slice A1 b1.length a1,.slice D1 d1.length e1,.slice F1 f1.length h1] 36)).alloc (.cells #[.int .i64 g2,.slice A2 b2.length a2,.slice D2 d2.length e2,.slice F2 f2.length h2] 36)) (Cells (w.heap.size+1) #[.int .i64 g2,.slice A2 b2.length a2,.slice D2 d2.length e2,.slice F2 f2.length h2] 36::Cells w.heap.size #[.int .i64 g1,.slice A1 b1.length a1,.slice D1 d1.length e1,.slice F1 f1.length h1] 36::R):=by
  have h3:=(h.cells #[.int .i64 g1,.slice A1 b1.length a1,.slice D1 d1.length e1,.slice F1 f1.length h1] 36).cells #[.int .i64 g2,.slice A2 b2.length a2,.slice D2 d2.length e2,.slice F2 f2.length h2] 36
  simp only [World.size_alloc] at h3
  exact h3
 have KB:=Lib.hid (o_eqbk (c1:=a1) (c2:=a2) vb1.drop2 vb2.drop2 lb hh)
 have KD:Hid (∀ w',In F0 w0 w' (Cells (w.heap.size+1) #[.int .i64 g2,.slice A2 b2.length a2,.slice D2 d2.length e2,.slice F2 f2.length h2] 36::Cells w.heap.size #[.int .i64 g1,.slice A1 b1.length a1,.slice D1 d1.length e1,.slice F1 f1.length h1] 36::R)→Calls Tryz.prog 207 #[.slice D1 d1.length e1,.slice D2 d2.length e2] w' fun e w''=>e=.returned (.bool (decide (d1=d2)))∧In F0 w0 w'' (Cells (w.heap.size+1) #[.int .i64 g2,.slice A2 b2.length a2,.slice D2 d2.length e2,.slice F2 f2.length h2] 36::Cells w.heap.size #[.int .i64 g1,.slice A1 b1.length a1,.slice D1 d1.length e1,.slice F1 f1.length h1] 36::R)):=Lib.hid fun w' h'=>o_eqdr vd1.drop2 vd2.drop2 ld h'
 have KF:Hid (∀ w',In F0 w0 w' (Cells (w.heap.size+1) #[.int .i64 g2,.slice A2 b2.length a2,.slice D2 d2.length e2,.slice F2 f2.length h2] 36::Cells w.heap.size #[.int .i64 g1,.slice A1 b1.length a1,.slice D1 d1.length e1,.slice F1 f1.length h1] 36::R)→Calls Tryz.prog 208 #[.slice F1 f1.length h1,.slice F2 f2.length h2] w' fun e w''=>e=.returned (.bool (decide (f1=f2)))∧In F0 w0 w'' (Cells (w.heap.size+1) #[.int .i64 g2,.slice A2 b2.length a2,.slice D2 d2.length e2,.slice F2 f2.length h2] 36::Cells w.heap.size #[.int .i64 g1,.slice A1 b1.length a1,.slice D1 d1.length e1,.slice F1 f1.length h1] 36::R)):=Lib.hid fun w' h'=>o_eqfl vf1.drop2 vf2.drop2 lf h'
 have HH:=Lib.hid hh.drop.drop
 have e:decide ((⟨g1,b1,d1,f1⟩:StD)=⟨g2,b2,d2,f2⟩)=(decide (g1=g2) && (decide (b1=b2) && (decide (d1=d2) && decide (f1=f2)))):=by simp only [StD.mk.injEq,Bool.decide_and]
 rw [e]
 clear e h hh vb1 vd1 vf1 vb2 vd2 vf2 lb ld lf
 have qg:(g1 == g2)=decide (g1=g2):=rfl
 generalize decide (g1=g2)=xg at *
 generalize decide (b1=b2)=xb at *
 generalize decide (d1=d2)=xd at *
 generalize decide (f1=f2)=xf at *
 cases xg with
 | false=>
  clear KB KD KF
  go_enter Tryz.func147,Tryz.ntmps147
  go_wp2_with fail
  go_ret
  exact⟨rfl,HH.out⟩
 | true=>
  clear HH
  cases xb with
  | false=>
   clear KD KF
   go_enter Tryz.func147,Tryz.ntmps147
   go_wp2_with fail
   refine KB.out.mono ?_
   rintro e w1 ⟨rfl,gw1⟩
   clear KB
   have G:=Lib.hid gw1.drop.drop
   clear gw1
   go_wp2_with fail
   go_ret
   exact⟨rfl,G.out⟩
  | true=>
   cases xd with
   | false=>
    clear KF
    go_enter Tryz.func147,Tryz.ntmps147
    go_wp2_with fail
    refine KB.out.mono ?_
    rintro e w1 ⟨rfl,gw1⟩
    clear KB
    have p2w1:w1.cell? ⟨w.heap.size,2,none⟩=some (.slice D1 d1.length e1):=cell_of (gw1.block 1 rfl) rfl
    have q2w1:w1.cell? ⟨w.heap.size+1,2,none⟩=some (.slice D2 d2.length e2):=cell_of (gw1.block 0 rfl) rfl
    have K2:=Lib.hid (KD.out _ gw1)
    clear gw1 KD
    go_wp2_with fail
    refine K2.out.mono ?_
    rintro e w2 ⟨rfl,gw2⟩
    clear K2
    have G:=Lib.hid gw2.drop.drop
    clear gw2
    go_wp2_with fail
    go_ret
    exact⟨rfl,G.out⟩
   | true=>
    go_enter Tryz.func147,Tryz.ntmps147
    go_wp2_with fail
    refine KB.out.mono ?_
    rintro e w1 ⟨rfl,gw1⟩
    clear KB
    have p2w1:w1.cell? ⟨w.heap.size,2,none⟩=some (.slice D1 d1.length e1):=cell_of (gw1.block 1 rfl) rfl
    have q2w1:w1.cell? ⟨w.heap.size+1,2,none⟩=some (.slice D2 d2.length e2):=cell_of (gw1.block 0 rfl) rfl
    have K2:=Lib.hid (KD.out _ gw1)
    clear gw1 KD
    go_wp2_with fail
    refine K2.out.mono ?_
    rintro e w2 ⟨rfl,gw2⟩
    clear K2
    have p3w2:w2.cell? ⟨w.heap.size,3,none⟩=some (.slice F1 f1.length h1):=cell_of (gw2.block 1 rfl) rfl
    have q3w2:w2.cell? ⟨w.heap.size+1,3,none⟩=some (.slice F2 f2.length h2):=cell_of (gw2.block 0 rfl) rfl
    have K3:=Lib.hid (KF.out _ gw2)
    clear gw2 KF
    go_wp2_with fail
    refine K3.out.mono ?_
    rintro e w3 ⟨rfl,gw3⟩
    clear K3
    have G:=Lib.hid gw3.drop.drop
    clear gw3
    go_wp2_with fail
    go_ret
    exact⟨by simp,G.out⟩
end
def noValS:Value→Option (DataW Unit×List MemPlace):=fun _=>some (.lit (.bool true),[])
def keyIntS:Value→Int
 | .int _ a=>a
 | _=>0
theorem own_intsS {w:World} {bm:Nat} {M:List (Int×Int)} {F:List Nat} (h:SDM bm M w F) (hk:(M.map Prod.fst).Nodup) (hM:M.length≤1024) :
  ∃ D0:DataW Unit,w.ownsMap Tryz.prog 3 noValS bm M.length D0∧(Go.intKeys D0).Perm (M.map (·.1))∧Maps.size D0=M.length:=by
 obtain⟨-,es,clock,hb,hs,hkey,hR,hn⟩:=h
 have hall:∀ x∈es.toList,∃ a:Int,x.key=.int .i64 a∧keyOf Tryz.prog 3 x.key=some (.int .i64 a):=by
  intro x hx
  obtain⟨l,hl⟩:=hkey x hx
  obtain⟨a,h1,h2,_⟩:=Maps.keyOf_i64 Tryz.underlying3 hl
  exact⟨a,h1,h2 ▸ hl⟩
 refine⟨_,⟨es,clock,hb,⟨by unfold maxLen;omega,hs,fun x hx=>?_⟩,by omega,rfl⟩,?_,?_⟩
 ·obtain⟨a,h1,h2⟩:=hall x hx
  exact⟨_,by unfold WideElems.rd;rw [h2];rfl⟩
 ·show ((((es.toList.map (WideElems.rg Tryz.prog 3 noValS)).foldr DataW.insert []).map fun p=>_root_.Go.intOf p.1)).Perm _
  have hl:(es.toList.map (WideElems.rg Tryz.prog 3 noValS)).map (fun p=>_root_.Go.intOf p.1)=es.toList.map (fun x=>keyIntS x.key):=by
   rw [List.map_map]
   refine List.map_congr_left (fun x hx=>?_)
   obtain⟨a,h1,h2⟩:=hall x hx
   show _root_.Go.intOf (WideElems.rg Tryz.prog 3 noValS x).1=_
   unfold WideElems.rg WideElems.rd
   rw [h2,h1];rfl
  refine ((WideShapes.sorted_perm _).map _).trans ?_
  rw [hl]
  refine (List.perm_ext_iff_of_nodup ?_ hk).2 (fun a=>?_)
  ·rw [List.Nodup,List.pairwise_map,List.pairwise_iff_getElem]
   intro i j hi hj hij e
   have n1:=keys_ne hs (i:=i) (j:=j) (x:=es.toList[i]) (y:=es.toList[j]) (by simp at hi ⊢) (by simp at hj ⊢) (by omega)
   obtain⟨a,h1,_⟩:=hall _ (List.getElem_mem hi)
   obtain⟨b,h2,_⟩:=hall _ (List.getElem_mem hj)
   rw [h1,h2] at n1 e
   exact n1 (by rw [show a=b from e])
  ·simp only [List.mem_map]
   constructor
   ·rintro ⟨x,hx,rfl⟩
    obtain⟨i,hi,rfl⟩:=List.mem_iff_getElem.1 hx
    obtain⟨y,hy,e1,_⟩:=(hR es.toList[i].key es.toList[i].val).2 ⟨i,es.toList[i],by simp at hi ⊢,rfl,rfl⟩
    exact⟨y,hy,by rw [e1];rfl⟩
   ·rintro ⟨y,hy,rfl⟩
    obtain⟨i,x,hx,e1,_⟩:=(hR (.int .i64 y.1) (.int .i64 y.2)).1 ⟨y,hy,rfl,rfl⟩
    exact⟨x,by rw [Array.mem_toList_iff];exact Array.mem_of_getElem? hx,by rw [e1];rfl⟩
 ·show ((es.toList.map (WideElems.rg Tryz.prog 3 noValS)).foldr DataW.insert []).length=_
  rw [length_read,hn]
/-! ### the calls -/
theorem keysS_call (mb:Option Nat) (W:World):Calls Tryz.prog 61 #[.map mb] W fun e w'=>e=.returned (.func (.func 138) #[] #[.pointer (some ⟨W.heap.size,0,none⟩)])∧w'=W.alloc (.cells #[.map mb] 118):=
 (callsIn_wide (n:=5)).1 (AnyZI.keys_in Tryz.keysI Fence.wide 5 trivial rfl mb W)
theorem sortsS_in (m:Nat):AnyZI.SortsIn Tryz.prog Tryz.sortedI_ren Fence.wide m:=
 ⟨fun blk off cap ss W hH hblk hsz=>callsIn_wide.2 (AnyM.slices_Sort_int Tryz.sortI blk off cap ss W hH hblk hsz),
   fun p cap W=>callsIn_wide.2 (AnyM.slices_Sort_int_none Tryz.sortI p cap W)⟩
def SortedPostS (M:List (Int×Int)) (W:World) (e:Ending) (w':World):Prop:=
 ∃ (v:Value) (ss:List Int),e=.returned v∧ss.Perm (M.map (·.1))∧w'.ownsRow W.heap.size 3 1 v ss.length ((ss.mergeSort (fun x y=>decide (x≤y))).map encZ)∧Below W.heap.size W w'
theorem sortedS_call {W:World} {bm:Nat} {M:List (Int×Int)} {F:List Nat} (h:SDM bm M W F) (hk:(M.map Prod.fst).Nodup) (hM:M.length≤1024) :
  Calls Tryz.prog 60 #[.func (.func 138) #[] #[.pointer (some ⟨W.heap.size,0,none⟩)]] (W.alloc (.cells #[.map (some bm)] 118)) (SortedPostS M (W.alloc (.cells #[.map (some bm)] 118))):=by
 obtain⟨D0,hown,hp,hs⟩:=own_intsS h hk hM
 have hbl:=hown.lt
 have hseq:SeqGives Fence.wide 2 Tryz.prog 138 #[.pointer (some ⟨W.heap.size,0,none⟩)] encZ (fun ss=>ss.Perm (Go.intKeys D0)) (Maps.size D0) (W.alloc (.cells #[.map (some bm)] 118)):=
  AnyZI.keys_gives (ρ:=Tryz.keysI_ren) { Tryz.keysI with } Fence.wide _ trivial rfl (by omega) W.heap.size bm M.length D0 _ (by simp) (by simp) (by
   obtain⟨es,clock,hb,Ft,hs,hD⟩:=hown
   exact⟨es,clock,(Below.heap_alloc _ _ bm hbl).trans hb,Ft,hs,hD⟩)
 have cS:=AnyZI.sorted_in Tryz.sortedI Fence.wide 5 trivial trivial trivial trivial rfl (by omega) (sortsS_in _) (enters_of Tryz.func137 (by kernel_rfl) rfl) 138 #[.pointer (some ⟨W.heap.size,0,none⟩)] trivial (enters_of Tryz.func138 (by kernel_rfl) rfl) _ _ (by rw [hs];unfold maxLen;omega) (by rw [hs];omega) _ hseq
 change CallsIn _ _ Tryz.prog 60 _ _ _ at cS
 exact ((callsIn_wide (n:=5)).1 cS).mono fun e w' ⟨v,ss,he,h1,h2,_,h4⟩=>⟨v,ss,he,h1.trans hp,h2,h4⟩
theorem keys_srt {M:List (Int×Int)} (h:SrtD M) {ss:List Int} (hp:ss.Perm (M.map (·.1))):ss.mergeSort (fun x y=>decide (x≤y))=M.map (·.1):=by
 refine List.Perm.eq_of_pairwise (le:=fun a b:Int=>a≤b) (fun a b _ _ h1 h2=>Int.le_antisymm h1 h2) ?_ ?_ ?_
 ·have:=List.pairwise_mergeSort (le:=fun x y:Int=>decide (x≤y)) (fun a b c h1 h2=>by simp at *;omega) (fun a b=>by simp;omega) ss
  exact this.imp (fun h=>by simpa using h)
 ·exact List.pairwise_map.2 (List.Pairwise.imp (fun {x y} hl=>Int.le_of_lt hl) h)
 ·exact (List.mergeSort_perm _ _).trans hp
theorem srt_keys {M:List (Int×Int)} (h:SrtD M):(M.map Prod.fst).Nodup:=by
 unfold List.Nodup
 rw [List.pairwise_map]
 refine List.Pairwise.imp (fun {x y} hl e=>?_) h
 omega
section
variable {F0:List Nat} {w0 w:World} {R:List Asrt} {dm:Nat} {M:List (Int×Int)}
theorem o_keysS (h:In F0 w0 w R) (i:Nat) (hA:R[i]?=some (SDM dm M)) (hs:SrtD M) (hM:M.length≤1024) :
  Calls Tryz.prog 60 #[.func (.func 138) #[] #[.pointer (some ⟨w.heap.size,0,none⟩)]] (w.alloc (.cells #[.map (some dm)] 118)) fun e w'=>∃ a cap,e=.returned (.slice a M.length cap)∧In F0 w0 w' (RowA 3 1 (.slice a M.length cap) M.length ((M.map (·.1)).map encZ)::R):=by
 obtain⟨Fm,hbm⟩:=h.get i hA
 refine (sortedS_call hbm (srt_keys hs) hM).mono fun e w' ⟨v,ss,he,hp,hrow,hbel⟩=>?_
 have hss:ss.length=M.length:=by rw [hp.length_eq,List.length_map]
 rw [keys_srt hs hp,hss] at hrow
 obtain⟨hr1,hr2⟩:=row_new hrow
 obtain⟨a,cap,rfl,-,-,-⟩:=hr1.shape
 exact⟨a,cap,he,In.below (h.alloc (.cells #[.map (some dm)] 118)) hbel (RowA.framed _ _ _ _ _) hr1 hr2⟩
abbrev DrR (v:Value) (l:List (Int×Int)):Asrt:=RowA 128 2 v l.length ((l.map encDr).flatten)
theorem infoDrS:(Tryz.prog.info? 128).map (fun i=>(i.zero.map (fun z=>z.cells.size),i.size,i.bytes))=some (some 2,2,16):=by kernel_rfl
def ViewRel (s:StD) (sb tb dm fm:Nat) (bv pv kv:Value) (F0:List Nat) (w0:World) (R:List Asrt) (i:Value) (wr:World):Prop:=
 ∃ (k:Nat) (v:Value),k≤s.drs.length∧i=.int .i64 k∧In F0 w0 wr (DrR v (s.drs.take k)::Cells tb #[.int .i64 s.gen,pv,v,.slice none 0 0] 36::RowA 3 1 kv s.drs.length ((s.drs.map (·.1)).map encZ)::Cells sb (stC s bv dm fm) 121::BkR bv s.bks::SDM dm s.drs::SFM fm s.fls::BkR pv s.bks::R)
end
section
variable {F0:List Nat} {w0 w:World} {R:List Asrt}
theorem In.rowFull (h:In F0 w0 w R) (i:Nat) {g n:Nat} {C:Array Value} {T:TypeId} {k:Nat} (hA:R[i]?=some (Cells g C T)) (hs:C.size=n * k) (hn:n≤maxLen):In F0 w0 w (R.set i (RowA T k (.slice (some ⟨g,0,none⟩) n n) n C.toList)):=
 h.imp i hA (RowA.framed _ _ _ _ _) fun F hF=>⟨by rw [hF.1];simp [Value.ownBlock],by simp [hs],Or.inr ⟨g,n,C,rfl,Nat.zero_le _,hF.2,Nat.le_refl _,hn,hs,by rw [List.take_of_length_le (by simp [hs])]⟩⟩
abbrev encN (r:Rec):List Value:=encRL r (.slice none 0 0)
def recsV (pv:Value):List Rec→List Value
 | []=>[]
 | r::l=>encRL r pv++(l.map encN).flatten
theorem recsV_snoc (pv:Value) (r x:Rec) (l:List Rec):recsV pv (r::l)++encN x=recsV pv (r::(l++[x])):=by simp [recsV]
theorem recsV_at {pv:Value} {l:List Rec} {i:Nat} {x:Rec} (hx:l[i]?=some x):∀ j,j < 14→(recsV pv l)[i * 14+j]?=(encRL x (if i=0 then pv else .slice none 0 0))[j]?:=by
 intro j hj
 cases l with
 | nil=>simp at hx
 | cons r l=>
  show (encRL r pv++(l.map encN).flatten)[i * 14+j]?=_
  cases i with
  | zero=>
   simp at hx;subst hx
   rw [if_pos rfl,List.getElem?_append_left (by show 0 * 14+j < 14;omega)]
   simp only [Nat.zero_mul,Nat.zero_add]
  | succ i=>
   have hx':l[i]?=some x:=by simpa using hx
   rw [if_neg (by omega),List.getElem?_append_right (by show 14≤(i+1) * 14+j;omega)]
   have e:(i+1) * 14+j - (encRL r pv).length=i * 14+j:=by show (i+1) * 14+j - 14=_;omega
   rw [e]
   exact flat_at (enc:=encN) (k:=14) (fun _=>rfl) hx' j hj
end
abbrev ByR (v:Value) (bs:List UInt8):Asrt:=RowA 5 1 v bs.length (u8s bs)
theorem be_two (n:Nat):be n 2=[UInt8.ofNat (n / 256),UInt8.ofNat n]:=by simp [be,beTo,List.range_succ]
theorem be_four (n:Nat):be n 4=[UInt8.ofNat (n / 16777216),UInt8.ofNat (n / 65536),UInt8.ofNat (n / 256),UInt8.ofNat n]:=by simp [be,beTo,List.range_succ]
theorem be_eight (n:Nat):be n 8=be (n / 4294967296) 4++be n 4:=by
 simp [be,beTo,List.range_succ,Nat.div_div_eq_div_mul]
theorem ofNat_val (n:Nat):((UInt8.ofNat n).toNat:Int)=(n:Int) % 256:=by simp
theorem ofNat_mod (n m:Nat) (h:n % 256=m % 256):UInt8.ofNat n=UInt8.ofNat m:=by
 apply UInt8.toNat.inj;simp;exact h
theorem u64_natQ {n:Nat} (h:n < 18446744073709551616):u64 (n:Int)=n:=by unfold u64;omega
section
variable {F0:List Nat} {w0 w:World} {R:List Asrt}
theorem q_u16 {n:Int} (h0:0≤n) (h1:n≤65535) (h:In F0 w0 w R):Calls Tryz.prog 149 #[.int .i64 n] w fun e w'=>∃ v,e=.returned v∧In F0 w0 w' (ByR v (be (u64 n) 2)::R):=by
 have g:=(h.cells #[.int .u8 (n / 256),.int .u8 (n % 256)] 5).rowFull 0 (n:=2) (k:=1) rfl rfl (by decide)
 have e:(#[.int .u8 (n / 256),.int .u8 (n % 256)]:Array Value).toList=u8s (be (u64 n) 2):=by
  obtain⟨a,rfl⟩:∃ a:Nat,n=a:=⟨n.toNat,by omega⟩
  rw [be_two,u64_natQ (by omega)]
  simp only [u8s,List.map_cons,List.map_nil,ofNat_val]
  have:(a:Int) / 256=((a / 256:Nat):Int) % 256:=by omega
  rw [this]
 rw [e] at g
 have G:Hid (∃ v,Ending.returned (.slice (some ⟨w.heap.size,0,none⟩) 2 2)=.returned v∧In F0 w0 (w.alloc (.cells #[.int .u8 (n / 256),.int .u8 (n % 256)] 5)) (ByR v (be (u64 n) 2)::R)):=Lib.hid ⟨_,rfl,g⟩
 clear h g e
 go_enter Tryz.func149,Tryz.ntmps149
 go_wp2_with fail
 go_ret
 exact G.out
theorem q_u32 {n:Int} (h0:0≤n) (h1:n < 4294967296) (h:In F0 w0 w R):Calls Tryz.prog 150 #[.int .u32 n] w fun e w'=>∃ v,e=.returned v∧In F0 w0 w' (ByR v (be (u64 n) 4)::R):=by
 have g:=(h.cells #[.int .u8 (n / 16777216),.int .u8 (n / 65536 % 256),.int .u8 (n / 256 % 256),.int .u8 (n % 256)] 5).rowFull 0 (n:=4) (k:=1) rfl rfl (by decide)
 have e:(#[.int .u8 (n / 16777216),.int .u8 (n / 65536 % 256),.int .u8 (n / 256 % 256),.int .u8 (n % 256)]:Array Value).toList=u8s (be (u64 n) 4):=by
  obtain⟨a,rfl⟩:∃ a:Nat,n=a:=⟨n.toNat,by omega⟩
  rw [be_four,u64_natQ (by omega)]
  simp only [u8s,List.map_cons,List.map_nil,ofNat_val]
  have e1:(a:Int) / 16777216=((a / 16777216:Nat):Int) % 256:=by omega
  have e2:(a:Int) / 65536 % 256=((a / 65536:Nat):Int) % 256:=by omega
  have e3:(a:Int) / 256 % 256=((a / 256:Nat):Int) % 256:=by omega
  rw [e1,e2,e3]
 rw [e] at g
 have G:Hid (∃ v,Ending.returned (.slice (some ⟨w.heap.size,0,none⟩) 4 4)=.returned v∧In F0 w0 (w.alloc (.cells #[.int .u8 (n / 16777216),.int .u8 (n / 65536 % 256),.int .u8 (n / 256 % 256),.int .u8 (n % 256)] 5)) (ByR v (be (u64 n) 4)::R)):=Lib.hid ⟨_,rfl,g⟩
 clear h g e
 go_enter Tryz.func150,Tryz.ntmps150
 go_wp2_with fail
 go_ret
 exact G.out
theorem ByR.shape {v:Value} {bs:List UInt8} {w:World} {R:List Asrt} {F0:List Nat} {w0:World} (h:In F0 w0 w (ByR v bs::R)):∃ a c,v=.slice a bs.length c:=by
 obtain⟨F,r⟩:=h.get 0 rfl
 obtain⟨a,c,rfl,-,-,-⟩:=RowA.shape r
 exact⟨a,c,rfl⟩
theorem ByR.src {a:Option Addr} {n c:Nat} {bs:List UInt8} {w:World} {R:List Asrt} {F0:List Nat} {w0:World} (h:In F0 w0 w R) (i:Nat) (hA:R[i]?=some (ByR (.slice a n c) bs)):Src w a bs.length 1 (u8s bs):=by
 obtain⟨F,r⟩:=h.get i hA
 exact r.all
theorem by_app {v:Value} {x y:List UInt8} (h:In F0 w0 w (RowA 5 1 v (x.length+y.length) (u8s x++u8s y)::R)):In F0 w0 w (ByR v (x++y)::R):=by
 have e:u8s (x++y)=u8s x++u8s y:=by simp [u8s]
 show In F0 w0 w (RowA 5 1 v (x++y).length (u8s (x++y))::R)
 rw [e,List.length_append];exact h
theorem u64_div {n:Int} (h0:0≤n) (h1:n < 18446744073709551616):u64 (n / 4294967296)=u64 n / 4294967296∧be (u64 (n % 4294967296)) 4=be (u64 n) 4:=by
 obtain⟨a,rfl⟩:∃ a:Nat,n=a:=⟨n.toNat,by omega⟩
 refine⟨by rw [u64_natQ (by omega)];unfold u64;omega,?_⟩
 rw [show ((a:Int) % 4294967296)=((a % 4294967296:Nat):Int) by omega,u64_natQ (by omega),u64_natQ (by omega),be_four,be_four]
 rw [ofNat_mod (a % 4294967296 / 16777216) (a / 16777216) (by omega),ofNat_mod (a % 4294967296 / 65536) (a / 65536) (by omega),ofNat_mod (a % 4294967296 / 256) (a / 256) (by omega),ofNat_mod (a % 4294967296) a (by omega)]
theorem q_i64 {n:Int} (h0:0≤n) (h1:n≤1099511627776) (h:In F0 w0 w R):Calls Tryz.prog 151 #[.int .i64 n] w fun e w'=>∃ v,e=.returned v∧In F0 w0 w' (ByR v (be (u64 n) 8)::R):=by
 obtain⟨e1,e2⟩:=u64_div h0 (by omega)
 have K1:=Lib.hid (q_u32 (n:=n / 4294967296) (by omega) (by omega) h)
 have K2:=Lib.hid (fun (w':World) (R':List Asrt) (h':In F0 w0 w' R')=>q_u32 (n:=n % 4294967296) (by omega) (by omega) h')
 have HE:Hid (be (u64 (n / 4294967296)) 4++be (u64 (n % 4294967296)) 4=be (u64 n) 8):=Lib.hid (by rw [e1,e2,be_eight])
 clear h e1 e2
 go_enter Tryz.func151,Tryz.ntmps151
 go_wp2_with fail
 refine K1.out.mono ?_
 rintro e w1 ⟨v1,rfl,g1⟩
 have K3:=Lib.hid (K2.out _ _ g1)
 obtain⟨a1,c1,rfl⟩:=ByR.shape g1
 clear g1 K1 K2
 go_wp2_with fail
 refine K3.out.mono ?_
 rintro e w2 ⟨v2,rfl,g2⟩
 obtain⟨a2,c2,rfl⟩:=ByR.shape g2
 have SS:=Lib.hid (ByR.src g2 0 rfl)
 have G2:=Lib.hid g2
 have HL:Hid ((be (u64 (n / 4294967296)) 4).length+(be (u64 (n % 4294967296)) 4).length≤1000000000):=Lib.hid (by rw [be_length,be_length];decide)
 clear g2 K3
 go_wp2_with (at_builtin;refine app_list rfl G2.out 1 rfl (.tmp 7) (.tmp 11) 61 (by rfl) Tryz.underlying61 infoByte (by decide) (by decide) (by rfl) (by rfl) SS.out (u8s_one _) HL.out ?_)
 intro v3 w3 ho hg
 have G3:=Lib.hid (by_app (ho.sel2 (R1:=[_,_]) (R2:=R) [1] (by decide) rfl))
 clear ho hg SS HL
 go_wp2_with fail
 go_ret
 exact⟨_,rfl,by rw [← HE.out];exact G3.out⟩
end
section
variable {F0:List Nat} {w0 w:World} {R:List Asrt}
theorem be_one (n:Nat):be n 1=[UInt8.ofNat n]:=by simp [be,beTo,List.range_succ]
theorem u8s_be1 {p:Int} (h0:0≤p) (h1:p≤255):[Value.int .u8 p]=u8s (be (u64 p) 1):=by
 obtain⟨a,rfl⟩:∃ a:Nat,p=a:=⟨p.toNat,by omega⟩
 rw [be_one,u64_natQ (by omega)]
 simp only [u8s,List.map_cons,List.map_nil,ofNat_val]
 rw [show ((a:Int) % 256)=(a:Int) by omega]
theorem by_one {v:Value} {x:List UInt8} {p:Int} (h0:0≤p) (h1:p≤255) (h:In F0 w0 w (RowA 5 1 v (x.length+1) (u8s x++[Value.int .u8 p])::R)):In F0 w0 w (ByR v (x++be (u64 p) 1)::R):=by
 rw [u8s_be1 h0 h1] at h
 exact by_app (y:=be (u64 p) 1) (by rw [be_length];exact h)
abbrev Q32 (F0:List Nat) (w0:World) (n:Int):Prop:=∀ (W:World) (R':List Asrt),In F0 w0 W R'→Calls Tryz.prog 150 #[.int .u32 n] W fun e w'=>∃ v,e=.returned v∧In F0 w0 w' (ByR v (be (u64 n) 4)::R')
abbrev Q16 (F0:List Nat) (w0:World) (n:Int):Prop:=∀ (W:World) (R':List Asrt),In F0 w0 W R'→Calls Tryz.prog 149 #[.int .i64 n] W fun e w'=>∃ v,e=.returned v∧In F0 w0 w' (ByR v (be (u64 n) 2)::R')
theorem bl_le (n m k l:Nat) (h:k+l≤1000):(be n k).length+(be m l).length≤1000000000:=by rw [be_length,be_length];omega
theorem q_tupb {src dst proto sport dport:Int} (ht:WfT ⟨src,dst,proto,sport,dport⟩) (hm:MayT ⟨src,dst,proto,sport,dport⟩) (h:In F0 w0 w R) :
  Calls Tryz.prog 148 #[.agg #[.int .u32 src,.int .u32 dst,.int .i64 proto,.int .i64 sport,.int .i64 dport]] w fun e w'=>∃ v,e=.returned v∧In F0 w0 w' (ByR v (keyL ⟨src,dst,proto,sport,dport⟩)::R):=by
 have hp0:0≤proto:=by have:=hm.proto;simp only at this;omega
 have hp1:proto≤255:=by have:=hm.proto;simp only at this;omega
 have KS:Hid (Q32 F0 w0 src):=Lib.hid (fun W R' h'=>q_u32 ht.s0 ht.s1 h')
 have KD:Hid (Q32 F0 w0 dst):=Lib.hid (fun W R' h'=>q_u32 ht.d0 ht.d1 h')
 have KP:Hid (Q16 F0 w0 sport):=Lib.hid (fun W R' h'=>q_u16 hm.sp0 hm.sp1 h')
 have KQ:Hid (Q16 F0 w0 dport):=Lib.hid (fun W R' h'=>q_u16 hm.dp0 hm.dp1 h')
 have g0:=h.cells #[.int .u32 src,.int .u32 dst,.int .i64 proto,.int .i64 sport,.int .i64 dport] 41
 obtain⟨w1,hw1⟩:∃ w1,w1=w.alloc (.cells #[.int .u32 src,.int .u32 dst,.int .i64 proto,.int .i64 sport,.int .i64 dport] 41):=⟨_,rfl⟩
 rw [← hw1] at g0
 have HW:=Lib.hid hw1
 have G0:=Lib.hid (g0.drewN 1)
 clear h hw1 g0 ht hm
 go_enter Tryz.func148,Tryz.ntmps148
 go_wp2_with fail
 rw [← HW.out]
 clear HW
 generalize w.heap.size=g at *
 have hz0:(w1.drewN 1).cell? ⟨g,0,none⟩=some (.int .u32 src)∧(w1.drewN 1).cell? ⟨g,1,none⟩=some (.int .u32 dst):=⟨cell_of (G0.out.block 0 rfl) rfl,cell_of (G0.out.block 0 rfl) rfl⟩
 go_region_held3 (fun w'=>w'.cell? ⟨g,0,none⟩=some (.int .u32 src)∧w'.cell? ⟨g,1,none⟩=some (.int .u32 dst)) (first | exact hz3 | exact hz2 | exact hz1 | exact hz0)
  (first
   | (refine app_step rfl (by exact G2.out) 1 rfl (.tmp 6) (.tmp 9) 61 (by rfl) Tryz.underlying61 infoByte (by decide) (by decide) (by rfl) (by rfl) (by exact ByR.src G2.out 0 rfl) (u8s_one _) (by exact bl_le _ _ _ _ (by decide)) ?_
      intro v3 w4 ho hg
      have hz3:w4.cell? ⟨g,0,none⟩=some (.int .u32 src)∧w4.cell? ⟨g,1,none⟩=some (.int .u32 dst):=⟨cell_of (ho.block 2 rfl) rfl,cell_of (ho.block 2 rfl) rfl⟩
      have g3:=by_app (ho.sel2 (R1:=[_,_,_]) (R2:=R) [1,2] (by decide) rfl)
      obtain⟨a3,c3,rfl⟩:=ByR.shape g3
      have G3:=Lib.hid g3
      clear ho hg g3)
   | (go_at_call 150
      refine (KD.out _ _ G1.out).mono ?_
      rintro e w3 ⟨v2,rfl,g2⟩
      obtain⟨a2,c2,rfl⟩:=ByR.shape g2
      have hz2:w3.cell? ⟨g,0,none⟩=some (.int .u32 src)∧w3.cell? ⟨g,1,none⟩=some (.int .u32 dst):=⟨cell_of (g2.block 2 rfl) rfl,cell_of (g2.block 2 rfl) rfl⟩
      have G2:=Lib.hid g2
      clear g2)
   | (go_at_call 150
      refine (KS.out _ _ G0.out).mono ?_
      rintro e w2 ⟨v1,rfl,g1⟩
      obtain⟨a1,c1,rfl⟩:=ByR.shape g1
      have hz1:w2.cell? ⟨g,0,none⟩=some (.int .u32 src)∧w2.cell? ⟨g,1,none⟩=some (.int .u32 dst):=⟨cell_of (g1.block 1 rfl) rfl,cell_of (g1.block 1 rfl) rfl⟩
      have G1:=Lib.hid g1
      clear g1))
 have p2:w4.cell? ⟨g,2,none⟩=some (.int .i64 proto):=cell_of (G3.out.block 1 rfl) rfl
 have H4:=Lib.hid (G3.out.cells #[.int .u8 proto] 5)
 have S4:=Lib.hid (Src.of_block (H4.out.block 0 rfl) rfl:Src _ (some ⟨w4.heap.size,0,none⟩) 1 1 _)
 clear hz0 hz1 hz2 hz3 G0 G1 G2 KS KD
 go_wp2_with (at_builtin;refine app_list rfl H4.out 1 rfl (.tmp 11) (.tmp 15) 61 (by rfl) Tryz.underlying61 infoByte (by decide) (by decide) (by rfl) (by rfl) S4.out (fun u hu=>by simp at hu;subst hu;rfl) (by rw [List.length_append,be_length,be_length];decide) ?_)
 intro v5 w5 ho hg
 have g5:=by_one hp0 hp1 (ho.sel2 (R1:=[_,_,_]) (R2:=R) [1,2] (by decide) rfl)
 obtain⟨a5,c5,rfl⟩:=ByR.shape g5
 have G5:=Lib.hid g5
 have G6:=Lib.hid (g5.drewN 1)
 have hl5:((be (u64 src) 4++be (u64 dst) 4)++be (u64 proto) 1).length=9:=by simp [be_length]
 have HL5:=Lib.hid hl5
 clear ho hg g5 H4 S4 p2 hp0 hp1 G3 hl5
 go_wp2_with fail
 have hz0:(w5.drewN 1).cell? ⟨g,3,none⟩=some (.int .i64 sport)∧(w5.drewN 1).cell? ⟨g,4,none⟩=some (.int .i64 dport):=⟨cell_of (G6.out.block 1 rfl) rfl,cell_of (G6.out.block 1 rfl) rfl⟩
 go_region_held3 (fun w'=>w'.cell? ⟨g,3,none⟩=some (.int .i64 sport)∧w'.cell? ⟨g,4,none⟩=some (.int .i64 dport)) (first | exact hz4 | exact hz3 | exact hz2 | exact hz1 | exact hz0)
  (first
   | (refine app_step rfl (by exact G9.out) 1 rfl (.tmp 21) (.tmp 24) 61 (by rfl) Tryz.underlying61 infoByte (by decide) (by decide) (by rfl) (by rfl) (by exact ByR.src G9.out 0 rfl) (u8s_one _) (by rw [List.length_append,HL5.out,be_length,be_length];decide) ?_
      intro v9 w9 ho hg
      have hz4:w9.cell? ⟨g,3,none⟩=some (.int .i64 sport)∧w9.cell? ⟨g,4,none⟩=some (.int .i64 dport):=⟨cell_of (ho.block 2 rfl) rfl,cell_of (ho.block 2 rfl) rfl⟩
      have GE:=Lib.hid (by_app (ho.sel2 (R1:=[_,_,_]) (R2:=R) [1] (by decide) rfl))
      clear ho hg)
   | (go_at_call 149
      refine (KQ.out _ _ G8.out).mono ?_
      rintro e w8 ⟨v8,rfl,g8⟩
      obtain⟨a8,c8,rfl⟩:=ByR.shape g8
      have hz3:w8.cell? ⟨g,3,none⟩=some (.int .i64 sport)∧w8.cell? ⟨g,4,none⟩=some (.int .i64 dport):=⟨cell_of (g8.block 2 rfl) rfl,cell_of (g8.block 2 rfl) rfl⟩
      have G9:=Lib.hid g8
      clear g8)
   | (refine app_step rfl (by exact G7.out) 1 rfl (.tmp 17) (.tmp 20) 61 (by rfl) Tryz.underlying61 infoByte (by decide) (by decide) (by rfl) (by rfl) (by exact ByR.src G7.out 0 rfl) (u8s_one _) (by rw [HL5.out,be_length];decide) ?_
      intro v7 w7 ho hg
      have hz2:w7.cell? ⟨g,3,none⟩=some (.int .i64 sport)∧w7.cell? ⟨g,4,none⟩=some (.int .i64 dport):=⟨cell_of (ho.block 2 rfl) rfl,cell_of (ho.block 2 rfl) rfl⟩
      have g8:=by_app (ho.sel2 (R1:=[_,_,_]) (R2:=R) [1,2] (by decide) rfl)
      obtain⟨a7,c7,rfl⟩:=ByR.shape g8
      have G8:=Lib.hid g8
      clear ho hg g8)
   | (go_at_call 149
      refine (KP.out _ _ G6.out).mono ?_
      rintro e w6 ⟨v6,rfl,g7⟩
      obtain⟨a6,c6,rfl⟩:=ByR.shape g7
      have hz1:w6.cell? ⟨g,3,none⟩=some (.int .i64 sport)∧w6.cell? ⟨g,4,none⟩=some (.int .i64 dport):=⟨cell_of (g7.block 2 rfl) rfl,cell_of (g7.block 2 rfl) rfl⟩
      have G7:=Lib.hid g7
      clear g7))
 clear hz0 hz1 hz2 hz3 hz4 G5 G6 G7 G8 G9 KP KQ
 go_wp2_with fail
 go_ret
 exact⟨_,rfl,GE.out⟩
end
section
variable {F0:List Nat} {w0 w:World} {R:List Asrt}
theorem o_qplain3 {src dst proto sport dport fbk fgen fseen gen bk till count:Int} {bks:List Bk} {A:Option Addr} {c:Nat} (hs:BksAt F0 w0 R A bks) (hl:bks.length≤1000000) (h:In F0 w0 w R):Calls Tryz.prog 42 #[agR ⟨3,⟨⟨src,dst,proto,sport,dport⟩,fbk,fgen,fseen⟩,gen,bks,bk,till,count⟩ A c] w (RecPost ⟨3,zeroF,gen,bks,0,0,0⟩ F0 w0 R):=by
 obtain⟨C0,hC0⟩:∃ C,C=(encRL ⟨3,⟨⟨src,dst,proto,sport,dport⟩,fbk,fgen,fseen⟩,gen,bks,bk,till,count⟩ (.slice A bks.length c)).toArray:=⟨_,rfl⟩
 obtain⟨C1,hC1⟩:∃ C,C=(encRL zeroRec (.slice none 0 0)).toArray:=⟨_,rfl⟩
 obtain⟨C2,hC2⟩:∃ C,C=(encRL ⟨3,zeroF,gen,[],0,0,0⟩ (.slice none 0 0)).toArray:=⟨_,rfl⟩
 have h3:=((h.cells C0 45).cells C1 45).cells C2 45
 simp only [World.size_alloc] at h3
 have HN:=Lib.hid (h3.rownil 108 3)
 have HS:=Lib.hid (hs _ h3.drop.drop.drop)
 have HL:=Lib.hid hl
 have HF:Hid (∀ w' v,In F0 w0 w' (BkR v bks::Cells (w.heap.size+1+1) C2 45::Cells (w.heap.size+1) C1 45::Cells w.heap.size C0 45::R) →
   w'.frozen? ⟨w.heap.size+1+1,10,none⟩=false∧w'.cell? ⟨w.heap.size+1+1,10,none⟩=some (.slice none 0 0)∧(∃ a cc,v=.slice a bks.length cc) ∧
   In F0 w0 (w'.setCell ⟨w.heap.size+1+1,10,none⟩ v) (BkR v bks::Cells (w.heap.size+1+1) (encRL ⟨3,zeroF,gen,bks,0,0,0⟩ v).toArray 45::Cells (w.heap.size+1) C1 45::Cells w.heap.size C0 45::R)):=Lib.hid fun w' v h'=>by
  obtain⟨F,hr⟩:=h'.get 0 rfl
  obtain⟨a,cc,e,-,-,-⟩:=RowA.shape hr
  refine⟨free_of (h'.block 1 rfl),cell_of (h'.block 1 rfl) (by rw [hC2];rfl),⟨a,cc,e⟩,?_⟩
  have h2:=h'.put (b:=w.heap.size+1+1) (T:=45) 1 rfl 10 v
  have e2:C2.setIfInBounds 10 v=(encRL ⟨3,zeroF,gen,bks,0,0,0⟩ v).toArray:=by rw [hC2];rfl
  rw [e2] at h2
  exact h2
 have HC:Hid (∀ w' v,In F0 w0 w' (BkR v bks::Cells (w.heap.size+1+1) (encRL ⟨3,zeroF,gen,bks,0,0,0⟩ v).toArray 45::Cells (w.heap.size+1) C1 45::Cells w.heap.size C0 45::R) →
   (w'.heap[w.heap.size+1+1]?=some (.cells (encRL ⟨3,zeroF,gen,bks,0,0,0⟩ v).toArray 45 (0,0))∧w'.there (w.heap.size+1) 0 14) ∧
   ((w'.setCells (w.heap.size+1) 0 (encRL ⟨3,zeroF,gen,bks,0,0,0⟩ v)).heap[w.heap.size+1]?=some (.cells (encRL ⟨3,zeroF,gen,bks,0,0,0⟩ v).toArray 45 (0,0))∧In F0 w0 (w'.setCells (w.heap.size+1) 0 (encRL ⟨3,zeroF,gen,bks,0,0,0⟩ v)) (BkR v bks::R))):=Lib.hid fun w' v h'=>by
  have h2:=h'.setFull 2 rfl (xs:=(encRL ⟨3,zeroF,gen,bks,0,0,0⟩ v)) (b:=w.heap.size+1) (C:=C1) (T:=45) (by rw [hC1];rfl)
  have ht:=there_of (h'.block 2 rfl)
  rw [hC1] at ht
  exact⟨⟨h'.block 1 rfl,ht⟩,h2.block 2 rfl,h2.sel2 (R1:=[_,_,_,_]) [0] (by decide) rfl⟩
 clear h h3 hs hl
 subst hC0 hC1 hC2
 go_enter Tryz.func42,Tryz.ntmps42
 go_wp2_with (at_builtin;refine app_list rfl HN.out 0 rfl (.const (.slice none 0 0)) (.tmp 27) 32 (by rfl) Tryz.underlying32 infoBk (by decide) (by decide) (by rfl) (by rfl) HS.out (bkV_one _) (by have:=HL.out;omega) ?_)
 intro v w3 ho hg
 have ho2:In F0 w0 w3 (BkR v bks::Cells (w.heap.size+1+1) (encRL ⟨3,zeroF,gen,[],0,0,0⟩ (.slice none 0 0)).toArray 45::Cells (w.heap.size+1) (encRL zeroRec (.slice none 0 0)).toArray 45::Cells w.heap.size (encRL ⟨3,⟨⟨src,dst,proto,sport,dport⟩,fbk,fgen,fseen⟩,gen,bks,bk,till,count⟩ (.slice A bks.length c)).toArray 45::R):=by simpa using ho
 obtain⟨f1,d1,⟨av,cv,rfl⟩,g2⟩:=HF.out w3 v ho2
 obtain⟨⟨q1,q2⟩,q3,q4⟩:=HC.out _ _ g2
 have Q1:=Lib.hid q1
 have Q2:=Lib.hid q2
 have Q3:=Lib.hid (And.intro q3 q4)
 clear HC HF HN HS ho ho2 hg g2 q1 q2 q3 q4
 go_wp2_with (first | (refine wpList_load_row rfl 45 (.tmp 3) rfl (w.heap.size+1+1) rfl 45 _ (0,0) _ Q1.out Tryz.underlying45 rfl (by kernel_rfl) ?_) | (refine wpList_store_mid (op:=⟨none,Op.store 45 (.tmp 2) (.tmp 48),_,_,_,_⟩) (by rfl) 45 (.tmp 2) (.tmp 48) rfl (w.heap.size+1) 0 (encRL ⟨3,zeroF,gen,bks,0,0,0⟩ (.slice av bks.length cv)).toArray (by rfl) (by rfl) Q2.out (by kernel_rfl) (encRL_all _ _ _ _) ?_))
 exact bodyPost_ret (results_cell_row Tryz.results42 _ _ (w.heap.size+1) 45 _ (0,0) _ rfl Q3.out.1 Tryz.underlying45 rfl (by kernel_rfl)) rfl ⟨_,rfl,Q3.out.2⟩
end
section
variable {F0:List Nat} {w0 w:World} {R:List Asrt}
theorem o_qplain {r:Rec} {A:Option Addr} {c:Nat} (hs:BksAt F0 w0 R A r.bks) (hl:r.bks.length≤1000000) (h:In F0 w0 w R):Calls Tryz.prog 42 #[agR r A c] w (RecPost (plainRec r) F0 w0 R):=by
 have H:Hid (∀ w' ,In F0 w0 w' R→In F0 w0 w' (BkR (.slice none 0 0) []::R)):=Lib.hid fun w' h'=>h'.rownil _ _
 have HH:=Lib.hid h
 obtain⟨kind,fl,gen,bks,bk,till,count⟩:=r
 by_cases k1:kind=1
 ·subst k1
  have e:plainRec ⟨1,fl,gen,bks,bk,till,count⟩=⟨1,fl,0,[],0,0,0⟩:=rfl
  rw [e];clear e h hs hl
  obtain⟨⟨src,dst,proto,sport,dport⟩,fbk,fgen,fseen⟩:=fl
  go_enter Tryz.func42,Tryz.ntmps42
  go_wp2_with fail
  exact bodyPost_ret (results_cell_row Tryz.results42 _ _ (w.heap.size+1) 45 _ (0,0) _ rfl (heap3_mid w _ _ _) Tryz.underlying45 rfl (by kernel_rfl)) rfl ⟨.slice none 0 0,rfl,H.out _ (((HH.out.alloc _).alloc _).alloc _)⟩
 by_cases k2:kind=2
 ·subst k2
  have e:plainRec ⟨2,fl,gen,bks,bk,till,count⟩=⟨2,⟨fl.t,0,0,0⟩,0,[],0,0,0⟩:=rfl
  rw [e];clear e h hs hl k1
  obtain⟨⟨src,dst,proto,sport,dport⟩,fbk,fgen,fseen⟩:=fl
  go_enter Tryz.func42,Tryz.ntmps42
  go_wp2_with fail
  exact bodyPost_ret (results_cell_row Tryz.results42 _ _ (w.heap.size+1) 45 _ (0,0) _ rfl (heap3_mid w _ _ _) Tryz.underlying45 rfl (by kernel_rfl)) rfl ⟨.slice none 0 0,rfl,H.out _ (((HH.out.alloc _).alloc _).alloc _)⟩
 by_cases k3:kind=3
 ·subst k3
  have e:plainRec ⟨3,fl,gen,bks,bk,till,count⟩=⟨3,zeroF,gen,bks,0,0,0⟩:=rfl
  rw [e];clear e k1 k2
  obtain⟨⟨src,dst,proto,sport,dport⟩,fbk,fgen,fseen⟩:=fl
  exact o_qplain3 hs hl h
 by_cases k4:kind=4
 ·subst k4
  have e:plainRec ⟨4,fl,gen,bks,bk,till,count⟩=⟨4,zeroF,0,[],bk,till,0⟩:=rfl
  rw [e];clear e h hs hl k1 k2 k3
  go_enter Tryz.func42,Tryz.ntmps42
  go_wp2_with fail
  have hne1:¬ w.heap.size+1+1=w.heap.size:=by omega
  have hne2:¬ w.heap.size=w.heap.size+1+1:=by omega
  go_region_held3 (fun w'=>w'.cell? ⟨w.heap.size,11,none⟩=some (.int .i64 bk)∧w'.cell? ⟨w.heap.size,12,none⟩=some (.int .i64 till)) (first | exact⟨rfl,rfl⟩ | (refine⟨?_,?_⟩ <;> go_simp;done) | go_keep) (fail)
  go_wp2_with fail
  exact bodyPost_ret (results_cell_row Tryz.results42 _ _ (w.heap.size+1) 45 _ (0,0) _ rfl (heap3_mid w _ _ _) Tryz.underlying45 rfl (by kernel_rfl)) rfl ⟨.slice none 0 0,rfl,H.out _ ((((HH.out.alloc _).alloc _).alloc _).drewN 1)⟩
 by_cases k5:kind=5
 ·subst k5
  have e:plainRec ⟨5,fl,gen,bks,bk,till,count⟩=⟨5,zeroF,0,[],bk,0,0⟩:=rfl
  rw [e];clear e h hs hl k1 k2 k3 k4
  go_enter Tryz.func42,Tryz.ntmps42
  go_wp2_with fail
  exact bodyPost_ret (results_cell_row Tryz.results42 _ _ (w.heap.size+1) 45 _ (0,0) _ rfl (heap3_mid w _ _ _) Tryz.underlying45 rfl (by kernel_rfl)) rfl ⟨.slice none 0 0,rfl,H.out _ (((HH.out.alloc _).alloc _).alloc _)⟩
 by_cases k6:kind=6
 ·subst k6
  have e:plainRec ⟨6,fl,gen,bks,bk,till,count⟩=⟨6,zeroF,0,[],0,0,count⟩:=rfl
  rw [e];clear e h hs hl k1 k2 k3 k4 k5
  go_enter Tryz.func42,Tryz.ntmps42
  go_wp2_with fail
  exact bodyPost_ret (results_cell_row Tryz.results42 _ _ (w.heap.size+1) 45 _ (0,0) _ rfl (heap3_mid w _ _ _) Tryz.underlying45 rfl (by kernel_rfl)) rfl ⟨.slice none 0 0,rfl,H.out _ (((HH.out.alloc _).alloc _).alloc _)⟩
 ·have e:plainRec ⟨kind,fl,gen,bks,bk,till,count⟩=⟨kind,zeroF,0,[],0,0,0⟩:=by unfold plainRec;simp only;rw [if_neg k1,if_neg k2,if_neg k3,if_neg k4,if_neg k5,if_neg k6]
  have q1:(kind == 1)=false:=beq_eq_false_iff_ne.2 k1
  have q2:(kind == 2)=false:=beq_eq_false_iff_ne.2 k2
  have q3:(kind == 3)=false:=beq_eq_false_iff_ne.2 k3
  have q4:(kind == 4)=false:=beq_eq_false_iff_ne.2 k4
  have q5:(kind == 5)=false:=beq_eq_false_iff_ne.2 k5
  have q6:(kind == 6)=false:=beq_eq_false_iff_ne.2 k6
  rw [e];clear e h hs hl k1 k2 k3 k4 k5 k6
  go_enter Tryz.func42,Tryz.ntmps42
  go_wp2_with fail
  exact bodyPost_ret (results_cell_row Tryz.results42 _ _ (w.heap.size+1) 45 _ (0,0) _ rfl (heap3_mid w _ _ _) Tryz.underlying45 rfl (by kernel_rfl)) rfl ⟨.slice none 0 0,rfl,H.out _ (((HH.out.alloc _).alloc _).alloc _)⟩
end
end Go.Proofs.YtaopfagclnocdaaGreat
