/- Rows.StoreRefusesSaid -/
import Derived.Test.YtpmmiljakbojaaaGreatRF15
import Derived.Test.YtpmmiljakbojaaaGreatShelfL
import Derived.Sort.KeysCollected
import Derived.Test.YtpmmiljakbojaaaGreatRF7
import Derived.Test.YtpmmiljakbojaaaGreatRF1
import Derived.OrdersHeld
import Derived.StillTail
import Derived.Deep.RegionHeld
import Derived.Deep.DeepCutAuto
import Derived.Deep.AppendLies
import Derived.LoopTactic
import Derived.Deep.Light
namespace Go.Proofs.YtpmmiljakbojaaaGreat
open Go.RowKit Go.Shelf
open Go.Maps (Keyed)
open Go.RowKit
set_option linter.unusedVariables false
set_option maxHeartbeats 64000000
set_option maxRecDepth 100000
def noValN:Value→Option (DataW Unit×List MemPlace):=fun _=>some (.lit (.bool true),[])
def keyStr:Value→List UInt8
 | .string s=>s.data.toList
 | _=>[]
def nmL (N:NmL):List (List UInt8):=N.map (fun x=>x.1.data.toList)
theorem bl_lt:∀ {a b:List UInt8},bl a b=true→a < b
 | _,[],h=>by cases ‹List UInt8› <;> simp [bl,Op.bytesLess] at h
 | [],_::_,_=>List.Lex.nil
 | a::x,b::y,h=>by
  rw [bl_cons] at h
  simp only [Bool.or_eq_true,decide_eq_true_eq,Bool.and_eq_true,beq_iff_eq] at h
  rcases h with h | ⟨rfl,h⟩
  ·exact List.Lex.rel h
  ·exact List.Lex.cons (bl_lt h)
theorem names_sorted {N:NmL} (hN:NmRow N) {ss:List (List UInt8)} (h:ss.Perm (nmL N)):ss.mergeSort (fun x y=>decide (x≤y))=nmL N:=by
 refine List.Perm.eq_of_pairwise (le:=fun a b:List UInt8=>a≤b) (fun a b _ _ h1 h2=>List.le_antisymm h1 h2) ?_ ?_ ?_
 ·have:=List.pairwise_mergeSort (le:=fun x y:List UInt8=>decide (x≤y)) (fun a b c h1 h2=>by simp only [decide_eq_true_eq] at *;exact List.le_trans h1 h2) (fun a b=>by simp only [Bool.or_eq_true,decide_eq_true_eq];exact List.le_total a b) ss
  exact this.imp (fun h=>by simpa using h)
 ·exact List.pairwise_map.2 (hN.imp (fun h=>List.le_of_lt (bl_lt h)))
 ·exact (List.mergeSort_perm _ _).trans h
theorem own_strs {w:World} {bn:Nat} {ads:List Nat} {N:NmL} {F:List Nat} (h:NTab bn ads N w F) (hN:NmRow N) (hl:N.length≤1024) :
  ∃ D0:DataW Unit,w.ownsMap Tryz.prog 9 noValN bn N.length D0∧(Go.strKeys D0).Perm (nmL N)∧Maps.size D0=N.length:=by
 obtain⟨-,es,clock,hb,hs,hkey,hR,hn⟩:=h
 have hall:∀ x∈es.toList,∃ a:List UInt8,x.key=encStr a∧keyOf Tryz.prog 9 x.key=some (.string a):=by
  intro x hx
  obtain⟨l,hl⟩:=hkey x hx
  obtain⟨a,h1,h2,_⟩:=Maps.keyOf_str Tryz.underlying9 hl
  exact⟨a,h1,h2 ▸ hl⟩
 refine⟨_,⟨es,clock,hb,⟨by unfold maxLen;omega,hs,fun x hx=>?_⟩,by omega,rfl⟩,?_,?_⟩
 ·obtain⟨a,h1,h2⟩:=hall x hx
  exact⟨_,by unfold WideElems.rd;rw [h2];rfl⟩
 ·show ((((es.toList.map (WideElems.rg Tryz.prog 9 noValN)).foldr DataW.insert []).map fun p=>_root_.Go.strOf p.1)).Perm _
  have hl:(es.toList.map (WideElems.rg Tryz.prog 9 noValN)).map (fun p=>_root_.Go.strOf p.1)=es.toList.map (fun x=>keyStr x.key):=by
   rw [List.map_map]
   refine List.map_congr_left (fun x hx=>?_)
   obtain⟨a,h1,h2⟩:=hall x hx
   show _root_.Go.strOf (WideElems.rg Tryz.prog 9 noValN x).1=_
   unfold WideElems.rg WideElems.rd
   rw [h2,h1];rfl
  refine ((WideShapes.sorted_perm _).map _).trans ?_
  rw [hl]
  have hnd:(nmL N).Nodup:=List.pairwise_map.2 (hN.imp (fun h e=>by have:=bl_lt h;rw [e] at this;exact List.lt_irrefl _ this))
  refine (List.perm_ext_iff_of_nodup ?_ hnd).2 (fun a=>?_)
  ·rw [List.Nodup,List.pairwise_map,List.pairwise_iff_getElem]
   intro i j hi hj hij e
   have n1:=keys_ne hs (i:=i) (j:=j) (x:=es.toList[i]) (y:=es.toList[j]) (by simp at hi ⊢) (by simp at hj ⊢) (by omega)
   obtain⟨a,h1,_⟩:=hall _ (List.getElem_mem hi)
   obtain⟨b,h2,_⟩:=hall _ (List.getElem_mem hj)
   rw [h1,h2] at n1 e
   exact n1 (by rw [show a=b from e])
  ·simp only [nmL,List.mem_map]
   constructor
   ·rintro ⟨x,hx,rfl⟩
    obtain⟨i,hi,rfl⟩:=List.mem_iff_getElem.1 hx
    obtain⟨y,hy,e1,_⟩:=(hR es.toList[i].key es.toList[i].val).2 ⟨i,es.toList[i],by simp at hi ⊢,rfl,rfl⟩
    exact⟨y,hy,by rw [e1];rfl⟩
   ·rintro ⟨y,hy,rfl⟩
    obtain⟨i,x,hx,e1,_⟩:=(hR (ekN y) (evN ads y)).1 ⟨y,hy,rfl,rfl⟩
    exact⟨x,by rw [Array.mem_toList_iff];exact Array.mem_of_getElem? hx,by rw [e1];rfl⟩
 ·show ((es.toList.map (WideElems.rg Tryz.prog 9 noValN)).foldr DataW.insert []).length=_
  rw [length_read,hn]
/-! ### the calls -/
theorem nkeys_call (mb:Option Nat) (W:World):Calls Tryz.prog 36 #[.map mb] W fun e w'=>e=.returned (.func (.func 94) #[] #[.pointer (some ⟨W.heap.size,0,none⟩)])∧w'=W.alloc (.cells #[.map mb] 61):=
 (callsIn_wide (n:=5)).1 (AnyZ.keys_in Tryz.keysS Fence.wide 5 trivial rfl mb W)
theorem nsorts_in (m:Nat):AnyZ.SortsIn Tryz.prog Tryz.sortedS_ren Fence.wide m:=
 ⟨fun blk off cap ss W hH hblk hsz=>callsIn_wide.2 (AnyM.slices_Sort_string Tryz.sortS blk off cap ss W hH hblk hsz),
   fun p cap W=>callsIn_wide.2 (AnyM.slices_Sort_string_none Tryz.sortS p cap W)⟩
section
variable {F0:List Nat} {w0 w:World} {R:List Asrt}
abbrev NmRowA (v:Value) (N:NmL):Asrt:=RowA 9 1 v N.length ((nmL N).map encStr)
theorem sorted_names {bn:Nat} {ads:List Nat} {N:NmL} (h:In F0 w0 w R) (i:Nat) (hA:R[i]?=some (NTab bn ads N)) (hN:NmRow N) (hl:N.length≤1024) :
  Calls Tryz.prog 35 #[.func (.func 94) #[] #[.pointer (some ⟨w.heap.size,0,none⟩)]] (w.alloc (.cells #[.map (some bn)] 61)) fun e w'=>∃ a cap,e=.returned (.slice a N.length cap)∧In F0 w0 w' (NmRowA (.slice a N.length cap) N::R):=by
 obtain⟨F,hF⟩:=h.get i hA
 obtain⟨D0,hown,hp,hs⟩:=own_strs hF hN hl
 have hbl:=hown.lt
 have hseq:SeqGives Fence.wide 2 Tryz.prog 94 #[.pointer (some ⟨w.heap.size,0,none⟩)] encStr (fun ss=>ss.Perm (Go.strKeys D0)) (Maps.size D0) (w.alloc (.cells #[.map (some bn)] 61)):=
  AnyZ.keys_gives (ρ:=Tryz.keysS_ren) { Tryz.keysS with } Fence.wide _ trivial rfl (by omega) w.heap.size bn N.length D0 _ (by simp) (by simp) (by
   obtain⟨es,clock,hb,Ft,hs,hD⟩:=hown
   exact⟨es,clock,(Below.heap_alloc _ _ bn hbl).trans hb,Ft,hs,hD⟩)
 have cS:=AnyZ.sorted_in Tryz.sortedS Fence.wide 5 trivial trivial trivial trivial rfl (by omega) (nsorts_in _) (enters_of Tryz.func93 (by kernel_rfl) rfl) 94 #[.pointer (some ⟨w.heap.size,0,none⟩)] trivial (enters_of Tryz.func94 (by kernel_rfl) rfl) _ _ (by rw [hs];unfold maxLen;omega) (by rw [hs];omega) _ hseq
 change CallsIn _ _ Tryz.prog 35 _ _ _ at cS
 refine ((callsIn_wide (n:=5)).1 cS).mono fun e w' ⟨v,ss,he,h1,h2,_,h4⟩=>?_
 have hp2:=h1.trans hp
 rw [names_sorted hN hp2,hp2.length_eq,show (nmL N).length=N.length by simp [nmL]] at h2
 obtain⟨hr1,hr2⟩:=row_new h2
 obtain⟨a,cap,rfl,-,-,-⟩:=hr1.shape
 exact⟨a,cap,he,In.below (h.alloc (.cells #[.map (some bn)] 61)) h4 (RowA.framed _ _ _ _ _) hr1 hr2⟩
end
section
variable {F0:List Nat} {w0 w:World} {R:List Asrt}
structure PkOk (F0:List Nat) (w0:World) (A:Option Addr) (c:Nat) (q:List UInt8):Prop where
 src:∀ w',Mod F0 w0 w'→Src w' A q.length 1 (u8s q)
 cap:q.length≤c
 room:c≤maxLen
def PickPost (q:List UInt8) (n pb i:Nat) (F0:List Nat) (w0:World) (R:List Asrt) (e:Ending) (w':World):Prop:=
 e=.returned (.int .i64 (pickN q n))∧∃ A c,PkOk F0 w0 A c q.tail∧In F0 w0 w' (R.set i (Cells pb #[.slice A q.tail.length c] 41))
theorem o_pick (h:In F0 w0 w R) (i pb:Nat) {A:Option Addr} {c:Nat} {q:List UInt8} (hA:R[i]?=some (Cells pb #[.slice A q.length c] 41)) (hq:PkOk F0 w0 A c q) (n:Nat) (hn:n≤1000000000) :
  Calls Tryz.prog 38 #[.int .i64 n,.pointer (some ⟨pb,0,none⟩)] w (PickPost q n pb i F0 w0 R):=by
 have c0:w.cell? ⟨pb,0,none⟩=some (.slice A q.length c):=cell_of (h.block i hA) rfl
 have f0:w.frozen? ⟨pb,0,none⟩=false:=free_of (h.block i hA)
 cases q with
 | nil=>
  have HF:Hid (PickPost [] n pb i F0 w0 R (.returned (.int .i64 0)) w):=Lib.hid ⟨rfl,A,c,hq,by
   have:=h;rw [← set_same hA] at this;exact this⟩
  clear h hA hq
  simp only [List.length_nil] at c0
  go_enter Tryz.func38,Tryz.ntmps38
  go_wp2_with fail
  go_ret
  exact HF.out
 | cons x r=>
  have hsrc:=hq.src w h.mod
  obtain⟨ad,rfl,hc⟩:=hsrc.at' (by simp)
  obtain⟨g,o,rfl⟩:∃ g o,ad=⟨g,o,none⟩:=by
   have:=hc 0 (.int .u8 x.toNat) (by rfl)
   have e:ad.add 0=ad:=by simp [Addr.add]
   rw [e] at this
   have:=World.cell?_spot this
   exact⟨ad.block,ad.off,by cases ad;simp at this;simp [this]⟩
  have cx:w.cell? ⟨g,o,none⟩=some (.int .u8 x.toNat):=by
   have:=hc 0 (.int .u8 x.toNat) (by rfl)
   rwa [add_at] at this
  have hcap:=hq.cap
  have hroom:=hq.room
  simp only [List.length_cons] at hcap c0
  unfold maxLen at hroom
  have r1:(Instr.slice 41 (.slice (some ⟨g,o,none⟩) (r.length+1) c) (some (.int .i64 1)) none none).run Tryz.prog w=.ok (.slice (sufA (some ⟨g,o,none⟩) c 1 1) (r.length+1 - 1) (c - 1)) w:=
   run_suffix Tryz.underlying41 infoByte (some ⟨g,o,none⟩) (r.length+1) c 1 (by omega) w
  obtain⟨g',o',hsuf,hso⟩:∃ g' o',sufA (some ⟨g,o,none⟩) c 1 1=some ⟨g',o',none⟩∧(0 < r.length→g'=g∧o'=o+1):=by
   unfold sufA
   split
   ·exact⟨g,o,rfl,fun h0=>by omega⟩
   ·exact⟨g,o+1,by simp [add_at],fun _=>⟨rfl,rfl⟩⟩
  rw [hsuf] at r1
  have h2:=h.put i hA 0 (.slice (some ⟨g',o',none⟩) (r.length+1 - 1) (c - 1))
  have HF:Hid (PickPost (x::r) n pb i F0 w0 R (.returned (.int .i64 ((x.toNat:Int) % ((n:Int)+1)))) (w.setCell ⟨pb,0,none⟩ (.slice (some ⟨g',o',none⟩) (r.length+1 - 1) (c - 1)))):=by
   refine Lib.hid ⟨by rw [show pickN (x::r) n=x.toNat % (n+1) from rfl];simp,some ⟨g',o',none⟩,c - 1,⟨fun w' hw'=>?_,by simp only [List.tail_cons];omega,by unfold maxLen;omega⟩,h2⟩
   have:=hq.src w' hw'
   simp only [List.tail_cons]
   by_cases h0:0 < r.length
   ·obtain⟨rfl,rfl⟩:=hso h0
    have:=src_drop this rfl (i:=1) (by simp;omega)
    simpa using this
   ·have:r=[]:=List.length_eq_zero_iff.1 (by omega)
    subst this
    exact Src.nil _ _ _
  have hxl:=x.toNat_lt
  clear h hA hq hsrc hc hso h2 hsuf hcap
  go_enter Tryz.func38,Tryz.ntmps38
  go_wp2_with fail
  go_ret
  exact HF.out
end
section
variable {P:Program} {ops:Array Oper} {Q:Exit→Act→World→Prop} {md:Region.Mode} {S:World→Prop}
def wpAnyE (P:Program) (md:Region.Mode) (ops:Array Oper) (Q:Exit→Act→World→Prop) (S:World→Prop):Nat→Array Bool→Act→World→Prop
 | 0,listed,a,w=>Region.ready md ops listed=[]∧Q .normal a w
 | fuel+1,listed,a,w=>
  (Region.ready md ops listed=[]→Q .normal a w) ∧
  ∀ i∈Region.ready md ops listed,wpOp P ops Q i (fun a' w'=>(i+1 < ops.size→S w')∧wpAnyE P md ops Q S fuel (listed.setIfInBounds i true) a' w') a w
theorem wpAny_of_E:∀ (fuel:Nat) (listed:Array Bool) (a:Act) (w:World),wpAnyE P md ops Q S fuel listed a w→wpAny P md ops Q fuel listed a w
 | 0,_,_,_,h=>h
 | fuel+1,_,_,_,h=>⟨h.1,fun i hi=>wpOp_mono (fun a' w' h'=>wpAny_of_E fuel _ a' w' h'.2) (h.2 i hi)⟩
theorem chainB_last:Region.chainB md ops (ops.size - 1)=true:=
 List.all_eq_true.2 fun t ht=>by
  have:=List.mem_range.1 ht
  simp only [Bool.or_eq_true,decide_eq_true_eq];left;omega
theorem wpAnyE_first {i:Nat} {oi:Oper} {v:Value} (hi:ops[i]?=some oi) (hsel:∀ (j:Nat) (o:Oper) cs b,ops[j]?=some o→o.op≠.select cs b)
  (hQ:∀ c a w,Q (.panic c) (a.put oi.dst v) w→Q (.panic c) a w) (hs:Region.sinkB md ops (ops.size - 1)=true) (hin:i+1 < ops.size) :
  ∀ (fuel:Nat) (listed:Array Bool) (a:Act) (w:World),HeadInv md ops (ops.size - 1) listed →
   (∀ j oj,ops[j]?=some oj→j≠i→listed.getD j true=false→(∀ e∈oj.after,Region.binds md e=true→e.on≠i)→oi.apart ops oj=true) →
   i∈Region.ready md ops listed→YieldsIf P ops S oi v a→S w →
   wpAnyE P md ops Q S fuel (listed.setIfInBounds i true) (a.put oi.dst v) w→wpAnyE P md ops Q S (fuel+1) listed a w:=by
 intro fuel
 induction fuel with
 | zero=>
  intro listed a w inv _ hr hy hS H
  refine⟨fun h=>(by rw [h] at hr;cases hr),fun j hj=>?_⟩
  by_cases hji:j=i
  ·subst hji;exact hy.wpOp hi hS ⟨fun _=>hS,H⟩
  ·have:=ready_mono hj hji
   rw [H.1] at this
   cases this
 | succ fuel ih=>
  intro listed a w inv hfree hr hy hS H
  refine⟨fun h=>(by rw [h] at hr;cases hr),fun j hj=>?_⟩
  by_cases hji:j=i
  ·subst hji;exact hy.wpOp hi hS ⟨fun _=>hS,H⟩
  ·have h1:=H.2 j (ready_mono hj hji)
   have hjn:j < ops.size - 1:=by
    refine Nat.lt_of_not_le fun hle=>?_
    exact tail_waits hs chainB_last (by omega) inv (ops.size - 1 - i) i rfl (by omega) (mem_ready.1 hr).1 j hle hj
   obtain⟨hjun,oj,hoj,hall⟩:=mem_ready.1 hj
   have hnot:∀ e∈oj.after,Region.binds md e=true→e.on≠i:=fun e he hb heq=>by
    have h1:=hall e he hb
    have h0:=(mem_ready.1 hr).1
    rw [heq] at h1
    rcases Nat.lt_or_ge i listed.size with h' | h'
    ·simp [h'] at h0 h1;rw [h0] at h1;cases h1
    ·simp [Array.getElem?_eq_none h'] at h1
   have h2:=wpOp_putIf hoj (hfree j oj hoj hji hjun hnot) (fun cs b=>hsel i oi cs b hi) (fun cs b=>hsel j oj cs b hoj) hQ hy h1
   have hfree':∀ k ok,ops[k]?=some ok→k≠i→(listed.setIfInBounds j true).getD k true=false →
     (∀ e∈ok.after,Region.binds md e=true→e.on≠i)→oi.apart ops ok=true:=fun k ok hk hki hun hno=>by
    refine hfree k ok hk hki ?_ hno
    by_cases hjk:j=k
    ·subst hjk;exact hjun
    ·rw [getD_set_ne true hjk] at hun;exact hun
   refine wpOp_mono (fun a' w' h3=>⟨h3.2.1,ih (listed.setIfInBounds j true) a' w' (inv.set hj hjn) hfree' (ready_mono hr (Ne.symm hji)) h3.1 (h3.2.1 (by omega)) ?_⟩) h2
   rw [Array.setIfInBounds_comm _ _ hji]
   exact h3.2.2
theorem wpAnyE_done {listed:Array Bool} {a:Act} {w:World} (hr:Region.ready md ops listed=[]) (h:Q .normal a w):∀ fuel,wpAnyE P md ops Q S fuel listed a w
 | 0=>⟨hr,h⟩
 | _+1=>⟨fun _=>h,by rw [hr];simp⟩
variable {l:List Oper}
def EAt (P:Program) (l:List Oper) (Q:Exit→Act→World→Prop) (S:World→Prop) (fuel:Nat) (listed:Array Bool) (a:Act) (w:World):Prop:=
 HeadInv .any l.toArray (l.toArray.size - 1) listed→wpAnyE P .any l.toArray Q S fuel listed a w
def takeB (l:List Oper) (i:Nat) (listed:Array Bool):Bool:=
 Region.noSelect l.toArray && Region.sinkB .any l.toArray (l.toArray.size - 1) && decide (i+1 < l.toArray.size) && Region.free .any l.toArray listed i && (Region.ready .any l.toArray listed).contains i
theorem e_take {i:Nat} {oi:Oper} {v:Value} {fuel:Nat} {listed:Array Bool} {a:Act} {w:World} (hi:l[i]?=some oi) (hc:takeB l i listed=true)
  (hQ:∀ c a w,Q (.panic c) (a.put oi.dst v) w→Q (.panic c) a w) (hw:Region.wanted oi (yielded l.toArray a.tmps)=true) (hy:∀ w,S w→(execOp a.eval oi).run P w=.ok (.value v) w) (hS:S w)
  (h:EAt P l Q S fuel (listed.setIfInBounds i true) (a.put oi.dst v) w):EAt P l Q S (fuel+1) listed a w:=by
 simp only [takeB,Bool.and_eq_true,decide_eq_true_eq] at hc
 obtain⟨⟨⟨⟨h1,h2⟩,h3⟩,h4⟩,h5⟩:=hc
 have hi':l.toArray[i]?=some oi:=by simpa using hi
 have hr:i∈Region.ready .any l.toArray listed:=by simpa using h5
 intro inv
 exact wpAnyE_first hi' (Region.noSelect_spec h1) hQ h2 h3 fuel listed a w inv (Region.free_spec hi' h4) hr (Or.inl ⟨hw,hy⟩) hS (h (inv.set hr (by omega)))
def pinB (l:List Oper) (i:Nat) (listed:Array Bool):Bool:=decide (Region.ready .any l.toArray listed=[i]) && decide (i+1 < l.toArray.size)
theorem e_pin {i:Nat} {o:Oper} {fuel:Nat} {listed:Array Bool} {a:Act} {w:World} (hi:l[i]?=some o) (hc:pinB l i listed=true)
  (h:∀ K':Act→World→Prop,Shut (∀ a w,S w→(S w→EAt P l Q S fuel (listed.setIfInBounds i true) a w)→K' a w)→if Region.wanted o (yielded l.toArray a.tmps)=true then Oper.wp P o a w K' Q else K' (a.put o.dst undef) w):EAt P l Q S (fuel+1) listed a w:=by
 simp only [pinB,Bool.and_eq_true,decide_eq_true_eq] at hc
 have hi':l.toArray[i]?=some o:=by simpa using hi
 intro inv
 refine⟨fun h0=>(by rw [hc.1] at h0;cases h0),fun j hj=>?_⟩
 have hr:=hj
 rw [hc.1] at hj
 obtain rfl:j=i:=by simpa using hj
 have:=h (fun a' w'=>(j+1 < l.toArray.size→S w')∧wpAnyE P .any l.toArray Q S fuel (listed.setIfInBounds j true) a' w') (fun a w hS hn=>⟨fun _=>hS,hn hS (inv.set hr (by omega))⟩)
 unfold wpOp
 simp only [hi']
 by_cases hwd:Region.wanted o (yielded l.toArray a.tmps)=true
 ·rw [if_pos hwd] at this ⊢;exact Or.inl this
 ·rw [if_neg hwd] at this ⊢;exact this
def lastB (l:List Oper) (i:Nat) (listed:Array Bool):Bool:=decide (Region.ready .any l.toArray listed=[i]) && decide (i+1=l.toArray.size) && decide (Region.ready .any l.toArray (listed.setIfInBounds i true)=[])
theorem e_last {i:Nat} {o:Oper} {fuel:Nat} {listed:Array Bool} {a:Act} {w:World} (hi:l[i]?=some o) (hc:lastB l i listed=true)
  (h:∀ K':Act→World→Prop,Shut (∀ a w,Q .normal a w→K' a w)→if Region.wanted o (yielded l.toArray a.tmps)=true then Oper.wp P o a w K' Q else K' (a.put o.dst undef) w):EAt P l Q S (fuel+1) listed a w:=by
 simp only [lastB,Bool.and_eq_true,decide_eq_true_eq] at hc
 have hi':l.toArray[i]?=some o:=by simpa using hi
 intro inv
 refine⟨fun h0=>(by rw [hc.1.1] at h0;cases h0),fun j hj=>?_⟩
 rw [hc.1.1] at hj
 obtain rfl:j=i:=by simpa using hj
 have:=h (fun a' w'=>(j+1 < l.toArray.size→S w')∧wpAnyE P .any l.toArray Q S fuel (listed.setIfInBounds j true) a' w') (fun a w hQ=>⟨fun hlt=>by omega,wpAnyE_done hc.2 hQ _⟩)
 unfold wpOp
 simp only [hi']
 by_cases hwd:Region.wanted o (yielded l.toArray a.tmps)=true
 ·rw [if_pos hwd] at this ⊢;exact Or.inl this
 ·rw [if_neg hwd] at this ⊢;exact this
theorem e_start {id:Nat} {a:Act} {w:World} (S:World→Prop) (hm:P.follows .mixedOrders=true) (hS:S w.drew) (h:S w.drew→EAt P l Q S l.length (Array.replicate l.length false) a w.drew):(Code.region id l.toArray true).wp P Q a w:=by
 refine wp_region_any hm (wpAny_of_E (S:=S) _ _ _ _ ?_)
 have:=h hS ⟨by simp,fun j oj _ hl=>(by rw [getD_replicate_false] at hl;cases hl),fun t _ ht=>getD_in (by simpa using ht) (getD_replicate_false _ _)⟩
 simpa using this
end
section
variable {F0:List Nat} {w0 w:World} {R:List Asrt}
theorem hist_at {N M:NmL} {l:List ChgD} {k:Nat} (h:Hist N l M k) {j:Nat} {c:ChgD} (hc:l[j]?=some c):chOk ((l.take j).foldl nmDo N) c∧NmOk ((l.take j).foldl nmDo N) k∧(l.take (j+1)).foldl nmDo N=nmDo ((l.take j).foldl nmDo N) c∧NmOk (nmDo ((l.take j).foldl nmDo N) c) k:=by
 induction l generalizing N j with
 | nil=>simp at hc
 | cons x r ih=>
  obtain⟨h0,h1,h2⟩:=h
  cases j with
  | zero=>
   simp at hc;subst hc
   exact⟨fun a b e=>(h1 a b e).2,h0,rfl,hist_files h2⟩
  | succ j=>
   simp at hc
   exact ih h2 hc
theorem ch_small {d:DiskD} (h:DiskOk d) {j:Nat} {c:ChgD} (hc:d.ch[j]?=some c):chSmall c:=by
 obtain⟨h1,h2,h3,h4⟩:=hist_at h.hist hc
 have hs:∀ {N:NmL} {k:Nat} {n:ByteArray} {f:Nat},NmOk N k→(n,f)∈N→n.size≤maxLen:=fun hN hm=>by
  have h3:=hN.named _ hm
  unfold namedB at h3;unfold maxLen
  have h4:=of_decide_eq_true h3
  simp only at h4
  omega
 cases c with
 | made n f=>exact hs h4 (nmPut_mem.2 (Or.inl rfl))
 | ren a b=>
  obtain⟨f,hf⟩:=h1 a b rfl
  refine⟨hs h2 (nmAt_mem hf),?_⟩
  by_cases e:a=b
  ·rw [← e];exact hs h2 (nmAt_mem hf)
  ·refine hs (f:=f) h4 ?_
   have e2:nmDo ((d.ch.take j).foldl nmDo d.sure) (.ren a b)=nmDel (nmPut ((d.ch.take j).foldl nmDo d.sure) b f) a:=by simp [nmDo,hf]
   rw [e2]
   exact nmDel_mem.2 ⟨nmPut_mem.2 (Or.inl rfl),fun e3=>e e3.symm⟩
 | rem n=>
  have:=h.rems n (List.mem_of_getElem? hc)
  show n.size≤maxLen
  unfold maxLen;omega
theorem flatC_at {ads:List Nat}:∀ {l:List ChgD} {j:Nat} {c:ChgD} {x0 x1 x2 x3:Value},l[j]?=some c→encC ads c=[x0,x1,x2,x3]→(flatC ads l)[j * 4]?=some x0∧(flatC ads l)[j * 4+1]?=some x1∧(flatC ads l)[j * 4+2]?=some x2∧(flatC ads l)[j * 4+3]?=some x3
 | [],_,_,_,_,_,_,h,_=>by simp at h
 | y::r,0,c,x0,x1,x2,x3,h,e=>by
  simp at h;subst h
  have e2:flatC ads (y::r)=[x0,x1,x2,x3]++flatC ads r:=by rw [← e];rfl
  rw [e2];exact⟨rfl,rfl,rfl,rfl⟩
 | y::r,j+1,c,x0,x1,x2,x3,h,e=>by
  simp at h
  have ih:=flatC_at (ads:=ads) h e
  have h4:(encC ads y).length=4:=by cases y <;> rfl
  have e2:flatC ads (y::r)=encC ads y++flatC ads r:=rfl
  have g:∀ t,(flatC ads (y::r))[(j+1) * 4+t]?=(flatC ads r)[j * 4+t]?:=fun t=>by
   rw [e2,List.getElem?_append_right (by omega),h4]
   congr 1;omega
  exact⟨by rw [← ih.1];exact g 0,by rw [← ih.2.1];exact g 1,by rw [← ih.2.2.1];exact g 2,by rw [← ih.2.2.2];exact g 3⟩
theorem encC_shape (ads:List Nat) (c:ChgD):∃ (i:Nat) (s t:ByteArray) (q:Option Addr),encC ads c=[.int .i64 i,.string s,.string t,.pointer q]:=by
 cases c <;> exact⟨_,_,_,_,rfl⟩
def dF (d:DiskD) (fs:List FileD):DiskD:=⟨d.quota,fs,d.now,d.sure,d.ch,d.ops,d.fail⟩
def CrR (d:DiskD) (N:NmL) (nb pb bd bn bs:Nat) (vch:Value) (ads:List Nat) (A:Option Addr) (q c:Nat):List Asrt:=
 NTab nb ads N::Cells pb #[.slice A q c] 41::DkR bd bn bs vch ads d
def CrRel1 (d:DiskD) (m nb pb bd bn bs:Nat) (vch:Value) (ads:List Nat) (A:Option Addr) (q c:Nat) (F:List Nat) (w:World) (i:Value) (wr:World):Prop:=
 ∃ k:Nat,k≤m∧i=.int .i64 k∧In F w wr (CrR d ((d.ch.take k).foldl nmDo d.sure) nb pb bd bn bs vch ads A q c)
def CrRel2 (d:DiskD) (N:NmL) (fs1:List FileD) (nv:Value) (nb pb bd bn bs:Nat) (vch:Value) (ads:List Nat) (F:List Nat) (w:World) (i:Value) (wr:World):Prop:=
 ∃ (k:Nat) (fs:List FileD) (A:Option Addr) (q:List UInt8) (c:Nat),k≤N.length∧i=.int .i64 k∧fs.length=d.files.length∧(∀ f∈fs,f.b.length≤1048576∧f.sure≤f.b.length)∧crashFiles (N.drop k) fs q=fs1∧PkOk F w A c q ∧
  In F w wr (NmRowA nv N::CrR (dF d fs) N nb pb bd bn bs vch ads A q.length c)
theorem nm_row_at {N:NmL} {w:World} {F:List Nat} {a:Option Addr} {n cap:Nat} (h:NmRowA (.slice a n cap) N w F) {k:Nat} {x:ByteArray×Nat} (hx:N[k]?=some x):∃ b,a=some ⟨b,0,none⟩∧w.cell? ⟨b,k,none⟩=some (.string x.1):=by
 refine h.at.2 k (.string x.1) ?_
 simp only [nmL,List.getElem?_map,hx,Option.map_some]
theorem cr_file {d:DiskD} {N:NmL} {nb pb bd bn bs:Nat} {vch nv:Value} {ads:List Nat} {A A':Option Addr} {q c q' c' i:Nat} {fs:List FileD} (hl:ads.length=fs.length) (hi:i < fs.length) (f:FileD) :
  ((NmRowA nv N::CrR (dF d fs) N nb pb bd bn bs vch ads A q c).set 2 (Cells pb #[.slice A' q' c'] 41)).set (4+i+3) (FileA (ads.getD i 0) f)=NmRowA nv N::CrR (dF d (fs.set i f)) N nb pb bd bn bs vch ads A' q' c':=by
 have e:=dkR_set (bd:=bd) (bn:=bn) (bs:=bs) (vch:=vch) (ads:=ads) (d:=dF d fs) hl hi f
 have e2:dSet (dF d fs) i f=dF d (fs.set i f):=rfl
 rw [e2] at e
 unfold CrR
 simp only [List.set_cons_succ,List.set_cons_zero]
 rw [e]
theorem cr_at {d:DiskD} {N:NmL} {nb pb bd bn bs:Nat} {vch nv:Value} {ads:List Nat} {A:Option Addr} {q c i:Nat} {fs:List FileD} (hl:ads.length=fs.length) (hi:i < fs.length) :
  (NmRowA nv N::CrR (dF d fs) N nb pb bd bn bs vch ads A q c)[4+i+3]?=some (FileA (ads.getD i 0) (fs.getD i default)):=by
 have e:=dkR_file (bd:=bd) (bn:=bn) (bs:=bs) (vch:=vch) (ads:=ads) (d:=dF d fs) hl hi
 unfold CrR
 simp only [List.getElem?_cons_succ]
 exact e
theorem cr_swap {L:List Asrt} {A B C:Asrt} {i:Nat}:(A::L.set (4+i+3) B).set 3 C=A::(L.set 2 C).set (4+i+3) B:=by
 rw [List.set_cons_succ,List.set_comm _ _ (by omega)]
theorem crashFiles_step {N:NmL} {j:Nat} {x:ByteArray×Nat} {fs fs1:List FileD} {q:List UInt8} (hx:N[j]?=some x) (h:crashFiles (N.drop j) fs q=fs1) :
  crashFiles (N.drop (j+1)) (fs.set x.2 (cutF (fs.getD x.2 default) (pickN q ((fs.getD x.2 default).b.length - (fs.getD x.2 default).sure)))) q.tail=fs1:=by
 have hdr:N.drop j=x::N.drop (j+1):=by
  obtain⟨a1,rfl⟩:=List.getElem?_eq_some_iff.1 hx
  exact List.drop_eq_getElem_cons a1
 rw [hdr] at h
 exact h
theorem cr_rel {d:DiskD} {N:NmL} {fs fs1:List FileD} {nv:Value} {nb pb bd bn bs j i pk af:Nat} {vch:Value} {ads:List Nat} {F:List Nat} {w w':World} {A0 A':Option Addr} {q:List UInt8} {q0 c0 c c':Nat} {av:Option Addr} {f:FileD} {L:List Asrt}
  (hj:j < N.length) (hfl:fs.length=d.files.length) (hl:ads.length=d.files.length) (hi:i < fs.length) (hfo:∀ f∈fs,f.b.length≤1048576∧f.sure≤f.b.length) (hf:fs.getD i default=f) (haf:ads.getD i 0=af) (hm:f.sure+pk≤f.b.length)
  (hcf:crashFiles (N.drop (j+1)) (fs.set i (cutF f pk)) q=fs1) (hL:L=NmRowA nv N::CrR (dF d fs) N nb pb bd bn bs vch ads A0 q0 c0) (hpk:PkOk F w A' c' q)
  (h:In F w w' (RowA 5 1 (.slice av f.b.length c) f.b.length (u8s f.b)::(L.set 2 (Cells pb #[.slice A' q.length c'] 41)).set (4+i+3) (Cells af #[.slice av f.b.length c,.int .i64 f.sure] 83))) :
  CrRel2 d N fs1 nv nb pb bd bn bs vch ads F w (.int .i64 ((j:Int)+1)) ((w'.setCell ⟨af,0,none⟩ (.slice av (f.sure+pk) c)).setCell ⟨af,1,none⟩ (.int .i64 (f.sure+pk:Nat))):=by
 have hLl:4+i+3 < L.length:=by rw [hL];exact (List.getElem?_eq_some_iff.1 (cr_at (by omega) hi)).1
 have h7:=file_cut (f:=f) hm (4+i+3) (by rw [List.length_set];exact hLl) h
 rw [hL,← haf,cr_file (by omega) hi] at h7
 refine⟨j+1,fs.set i (cutF f pk),A',q,c',by omega,by go_num,by rw [List.length_set];exact hfl,?_,hcf,hpk,?_⟩
 ·intro g hg
  rcases List.mem_or_eq_of_mem_set hg with hg | rfl
  ·exact hfo g hg
  ·have:=(hfo _ (getD_mem hi)).1
   rw [hf] at this
   simp only [cutF,List.length_take];omega
 ·rw [← haf];exact h7
theorem dcrash {d:DiskD} {bd:Nat} {F:List Nat} (h:DkA bd d w F) (ho:d.ops≤100000000) {A:Option Addr} {c:Nat} {p:List UInt8} (hp:PkOk F w A c p) :
  Calls Tryz.prog 17 #[dptr bd,.slice A p.length c] w (GV (.tuple #[]) (DkA bd (dCrash d p)) w F):=by
 obtain⟨hok,bn,bs,vch,ads,hl,h⟩:=h
 have h0:=(In.start DkR.framed h).cells #[.slice A p.length c] 41
 have hch:=hok.chops
 have hok':=dCrash_ok hok p
 have g2:(w.alloc (.cells #[.slice A p.length c] 41)).cell? ⟨bd,2,none⟩=some (.map (some bs)):=cell_of (h0.block 1 rfl) rfl
 obtain⟨es,clock,hb,h1⟩:=tab_clone h0 3 rfl
 have C1:=Lib.hid (clone_dmap bs es clock _ hb)
 have h2:In F w ((w.alloc (.cells #[.slice A p.length c] 41)).alloc (.map es clock)) (CrR d d.sure (w.heap.size+1) w.heap.size bd bn bs vch ads A p.length c):=by
  have:=h1
  simp only [World.size_alloc] at this
  exact this
 simp only [World.size_alloc] at C1
 have HOK:=Lib.hid hok
 have HL:=Lib.hid hl
 have HP:=Lib.hid hp
 have HE:Hid (∀ (w':World) (ns:Nat) (fs:List FileD),fs=crashFiles (crashNames d p) d.files p.tail→In F w w' (DkR bd (w.heap.size+1) ns (.slice none 0 0) ads (dCrash d p))→GV (.tuple #[]) (DkA bd (dCrash d p)) w F (.returned (.tuple #[])) w'):=
  Lib.hid fun w' ns fs _ h'=>dk_close h' hok' (by rw [hl];exact (crashFiles_length _ _ _).symm)
 clear h h0 h1 hok hok' hl hp hb
 have H2:=Lib.hid h2
 clear h2
 obtain⟨W1,hW1⟩:∃ W1,W1=(w.alloc (.cells #[.slice A p.length c] 41)).alloc (.map es clock):=⟨_,rfl⟩
 rw [← hW1] at H2
 have HW:=Lib.hid hW1
 clear hW1
 go_enter Tryz.func17,Tryz.ntmps17
 go_wp2_with fail
 refine C1.out.mono ?_
 rintro e w1 ⟨rfl,rfl⟩
 rw [← HW.out]
 clear g2 C1
 have c3:W1.cell? ⟨bd,3,none⟩=some vch:=cell_of (H2.out.block 2 rfl) rfl
 obtain⟨Fv,hv⟩:=H2.out.get 5 rfl
 obtain⟨ac,cc,rfl,k1,k2,-⟩:=hv.shape
 have hpl:=pickN_le p d.ch.length
 have KP:=Lib.hid (o_pick (H2.out.drewN 1) 1 w.heap.size rfl HP.out d.ch.length (by omega))
 have hsl:∀ wx,(Instr.slice 62 (.slice ac d.ch.length cc) none (some (.int .i64 (pickN p d.ch.length))) none).run Tryz.prog wx=.ok (.slice ac (pickN p d.ch.length) cc) wx:=fun wx=>row_prefix Tryz.underlying62 infoChange hv (by omega) wx
 have HB:Hid (∀ w',In F w w' ((CrR d d.sure (w.heap.size+1) w.heap.size bd bn bs (.slice ac d.ch.length cc) ads A p.length c))→w'.cell? ⟨bd,3,none⟩=some (.slice ac d.ch.length cc)):=Lib.hid fun w' h'=>cell_of (h'.block 2 rfl) rfl
 clear hv
 have HPC:Hid (∃ m,m=pickN p d.ch.length):=Lib.hid ⟨_,rfl⟩
 obtain⟨m,hm⟩:=HPC.out
 rw [← hm] at hsl hpl
 have HM:=Lib.hid hm
 clear hm HPC
 go_wp2_with fail
 go_region_held3 (fun w'=>w'.cell? ⟨bd,3,none⟩=some (.slice ac d.ch.length cc)) (first | exact hc1 | go_keep) ((go_at_call 38;refine KP.out.mono ?_;rintro e w1 ⟨rfl,A1,c1,hp1,ho1⟩;rw [← HM.out];have hc1:w1.cell? ⟨bd,3,none⟩=some (.slice ac d.ch.length cc):=cell_of (ho1.block 2 rfl) rfl))
 clear hc1 KP c3 HB
 have HR:Hid (CrRel1 d m (w.heap.size+1) w.heap.size bd bn bs (.slice ac d.ch.length cc) ads A1 p.tail.length c1 F w (.int .i64 0) w1):=Lib.hid ⟨0,Nat.zero_le _,rfl,ho1⟩
 have HPK:=Lib.hid hp1
 clear ho1 hp1 H2 HW HP
 have hml:m≤100000000:=by omega
 go_wp2_with fail
 go_loopw [32] (CrRel1 d m (w.heap.size+1) w.heap.size bd bn bs (.slice ac d.ch.length cc) ads A1 p.tail.length c1 F w) (fun k _=>m - (intOf k).toNat)
 case atStart=>exact HR.out
 case round=>
  obtain⟨k,hk,rfl,ho⟩:=hrel
  clear HR
  by_cases hlt:k < m
  ·obtain⟨c0,hc0⟩:∃ c0,d.ch[k]?=some c0:=⟨d.ch[k]'(by omega),List.getElem?_eq_getElem _⟩
   obtain⟨xi,xs,xt,xq,hx⟩:=encC_shape ads c0
   obtain⟨f0,f1,f2,f3⟩:=flatC_at hc0 hx
   obtain⟨Fr,hr⟩:=ho.get 5 rfl
   obtain⟨g,rfl,e0⟩:=hr.at.2 _ _ f0
   obtain⟨g',hg',e1⟩:=hr.at.2 _ _ f1
   cases hg'
   obtain⟨g',hg',e2⟩:=hr.at.2 _ _ f2
   cases hg'
   obtain⟨g',hg',e3⟩:=hr.at.2 _ _ f3
   cases hg'
   obtain⟨q1,q2,q3,q4⟩:=hist_at HOK.out.hist hc0
   have h4:=ho.cells (encC ads c0).toArray 86
   have KD:=Lib.hid (dk_do h4 1 rfl q2.row c0 (ch_small HOK.out hc0) q1)
   unfold aggC at KD
   rw [hx] at KD
   have HR:Hid (∀ w',In F w w' ((Cells wr.heap.size [.int .i64 xi,.string xs,.string xt,.pointer xq].toArray 86::CrR d ((d.ch.take k).foldl nmDo d.sure) (w.heap.size+1) w.heap.size bd bn bs (.slice (some ⟨g,0,none⟩) d.ch.length cc) ads A1 p.tail.length c1).set 1 (NTab (w.heap.size+1) ads (nmDo ((d.ch.take k).foldl nmDo d.sure) c0))) →
     CrRel1 d m (w.heap.size+1) w.heap.size bd bn bs (.slice (some ⟨g,0,none⟩) d.ch.length cc) ads A1 p.tail.length c1 F w (.int .i64 ((k:Int)+1)) w'):=Lib.hid fun w' h'=>⟨k+1,by omega,by go_num,by rw [q3];exact h'.drop⟩
   have hlt':(k:Int) < (m:Int):=by omega
   have hw2:wrap64 ((k:Int)+1)=(k:Int)+1:=by unfold wrap64;omega
   clear ho hr h4 q1 q2 q3 q4 f0 f1 f2 f3 hx hc0
   go_wp2_with fail
   refine KD.out.mono ?_
   rintro e w2 ⟨rfl,h5⟩
   have HR2:=Lib.hid (HR.out w2 h5)
   clear h5 HR KD
   go_wp2_with fail
   go_roundw
   case rel=>(try rw [hw2]);exact HR2.out
   case measure=>(try rw [hw2]);simp [intOf];omega
  ·have hge:(m:Int)≤(k:Int):=by omega
   obtain rfl:k=m:=by omega
   have hnm:(d.ch.take k).foldl nmDo d.sure=crashNames d p:=by rw [HM.out];rfl
   rw [hnm] at ho
   have hN:=crashNames_ok HOK.out p
   have KS:=Lib.hid (sorted_names ho 0 rfl hN.row (by have:=hN.few;omega))
   have HN:=Lib.hid hN
   have HFL:=Lib.hid (show DiskD.files d=d.files from rfl)
   clear hnm hlt hN
   obtain⟨N,hNe⟩:∃ N,N=crashNames d p:=⟨_,rfl⟩
   rw [← hNe] at ho KS HN HE
   have HNE:=Lib.hid hNe
   clear hNe ho
   go_wp2_with fail
   refine (nkeys_call _ _).mono ?_
   rintro e w2 ⟨rfl,rfl⟩
   go_wp2_with fail
   refine KS.out.mono ?_
   rintro e w3 ⟨an,cn,rfl,ho⟩
   have HR:Hid (CrRel2 d N (crashFiles N d.files p.tail) (.slice an N.length cn) (w.heap.size+1) w.heap.size bd bn bs (.slice ac d.ch.length cc) ads F w (.int .i64 0) w3):=Lib.hid ⟨0,d.files,A1,p.tail,c1,Nat.zero_le _,rfl,rfl,HOK.out.file,rfl,HPK.out,ho⟩
   clear ho KS HPK
   have hNl:N.length≤200:=HN.out.few
   go_wp2_with fail
   go_loopw [44] (CrRel2 d N (crashFiles N d.files p.tail) (.slice an N.length cn) (w.heap.size+1) w.heap.size bd bn bs (.slice ac d.ch.length cc) ads F w) (fun k _=>N.length - (intOf k).toNat)
   case atStart=>exact HR.out
   case round=>
    obtain⟨j,fs,Aq,q,cq,hj,rfl,hfl,hfo,hcf,hpk,ho⟩:=hrel
    clear HR
    by_cases hlt:j < N.length
    ·obtain⟨x,hx⟩:∃ x,N[j]?=some x:=⟨N[j],List.getElem?_eq_getElem hlt⟩
     obtain⟨Fn,hn⟩:=ho.get 0 rfl
     obtain⟨gn,rfl,cnm⟩:=nm_row_at hn hx
     have hxm:=List.mem_of_getElem? hx
     have hxs:x.1.size≤maxLen:=by
      have h3:=HN.out.named _ hxm
      unfold namedB at h3;unfold maxLen
      have h4:=of_decide_eq_true h3
      omega
     have lk:=nm_look ho 1 rfl HN.out.row hxs
     rw [(nmAt_some (NmRow.keys HN.out.row)).2 (show (x.1,x.2)∈N from hxm)] at lk
     have hi:x.2 < fs.length:=by rw [hfl];exact HN.out.lt _ hxm
     have hlt':(j:Int) < (N.length:Int):=by omega
     have hw2:wrap64 ((j:Int)+1)=(j:Int)+1:=by unfold wrap64;omega
     have hfx:=hfo _ (getD_mem hi)
     have hcf2:=crashFiles_step hx hcf
     obtain⟨L,hL⟩:∃ L,L=NmRowA (.slice (some ⟨gn,0,none⟩) N.length cn) N::CrR (dF d fs) N (w.heap.size+1) w.heap.size bd bn bs (.slice ac d.ch.length cc) ads Aq q.length cq:=⟨_,rfl⟩
     obtain⟨f,hf⟩:∃ f,fs.getD x.2 default=f:=⟨_,rfl⟩
     obtain⟨af,haf⟩:∃ af,ads.getD x.2 0=af:=⟨_,rfl⟩
     have hAf:L[4+x.2+3]?=some (FileA af f):=by
      rw [hL,← hf,← haf];exact cr_at (by rw [HL.out];exact hfl.symm) hi
     have hLl:=(List.getElem?_eq_some_iff.1 hAf).1
     have hL2:L[2]?=some (Cells w.heap.size #[.slice Aq q.length cq] 41):=by rw [hL];rfl
     rw [← hL] at ho
     rw [hf] at hcf2 hfx
     simp only [lookV,ptrAt,haf] at lk
     obtain⟨fv,h5⟩:=ho.file _ hAf
     obtain⟨Fv,hv⟩:=h5.get 0 rfl
     obtain⟨av,cv,rfl,k3,k4,-⟩:=hv.shape
     have hm:f.sure+pickN q (f.b.length - f.sure)≤f.b.length:=by
      have:=pickN_le q (f.b.length - f.sure);omega
     have KQ:=Lib.hid (o_pick (h5.drewN 1) 3 w.heap.size (by rw [List.getElem?_cons_succ,List.getElem?_set_ne (by omega)];exact hL2) hpk (f.b.length - f.sure) (by omega))
     have hb0:=h5.block (4+x.2+3+1) (b:=af) (C:=#[.slice av f.b.length cv,.int .i64 f.sure]) (T:=83) (by rw [List.getElem?_cons_succ,List.getElem?_set_self hLl])
     have hsl:∀ wx,(Instr.slice 41 (.slice av f.b.length cv) none (some (.int .i64 (f.sure+pickN q (f.b.length - f.sure):Nat))) none).run Tryz.prog wx=.ok (.slice av (f.sure+pickN q (f.b.length - f.sure)) cv) wx:=fun wx=>row_prefix Tryz.underlying41 infoByte hv (by omega) wx
     have hpl2:=pickN_le q (f.b.length - f.sure)
     have hsub:((f.b.length - f.sure:Nat):Int)=(f.b.length:Int) - (f.sure:Int):=by omega
     rw [hsub] at KQ
     have hRel:=fun w' A' c' (hp':PkOk F w A' c' q.tail) h'=>cr_rel (w':=w') (av:=av) (c:=cv) (c':=c') (A':=A') (bd:=bd) (bn:=bn) (bs:=bs) (vch:=.slice ac d.ch.length cc) hlt hfl HL.out hi hfo hf haf hm hcf2 hL hp' h'
     have hgc:∀ w' A' c',In F w w' (RowA 5 1 (.slice av f.b.length cv) f.b.length (u8s f.b)::(L.set 2 (Cells w.heap.size #[.slice A' q.tail.length c'] 41)).set (4+x.2+3) (Cells af #[.slice av f.b.length cv,.int .i64 f.sure] 83))→w'.heap[af]?=some (.cells #[.slice av f.b.length cv,.int .i64 f.sure] 83 (0,0)):=fun w' A' c' h'=>
      h'.block (4+x.2+3+1) (by rw [List.getElem?_cons_succ,List.getElem?_set_self (by rw [List.length_set];exact hLl)])
     have HREL:=Lib.hid hRel
     have HGC:=Lib.hid hgc
     obtain⟨PQ,hPQ⟩:∃ PQ,PQ=pickN q (f.b.length - f.sure):=⟨_,rfl⟩
     have HPQ:=Lib.hid hPQ
     rw [← hPQ] at hsl hpl2 hm HREL
     rw [Int.natCast_add] at hsl
     clear hPQ hRel hgc hAf hLl hL2 hv h5 ho hcf hcf2 hpk hfo hx hxm hn hxs hsub hL hfl hi hf haf
     obtain⟨hfx1,hfx2⟩:=hfx
     have hw3:IntKind.i64.wrap ((f.b.length:Int) - (f.sure:Int))=(f.b.length:Int) - (f.sure:Int):=IntWalk.i64_in _ (by omega)
     have hw4:IntKind.i64.wrap ((f.sure:Int)+(PQ:Int))=(f.sure:Int)+(PQ:Int):=IntWalk.i64_in _ (by omega)
     have c0:wr.cell? ⟨af,0,none⟩=some (.slice av f.b.length cv):=cell_of hb0 rfl
     have c1':wr.cell? ⟨af,1,none⟩=some (.int .i64 f.sure):=cell_of hb0 rfl
     have fz:wr.frozen? ⟨af,0,none⟩=false:=free_of hb0
     clear hb0
     go_upto_region 13 with fail
     go_cut [75] (fun c wx=>∃ w4 A4 c4,wx=w4.setCell ⟨af,0,none⟩ (.slice av (f.sure+PQ) cv)∧PkOk F w A4 c4 q.tail∧In F w w4 (RowA 5 1 (.slice av f.b.length cv) f.b.length (u8s f.b)::(L.set 2 (Cells w.heap.size #[.slice A4 q.tail.length c4] 41)).set (4+x.2+3) (Cells af #[.slice av f.b.length cv,.int .i64 f.sure] 83)))
     case first=>
      refine e_start (fun w'=>w'.cell? ⟨af,0,none⟩=some (.slice av f.b.length cv)∧w'.cell? ⟨af,1,none⟩=some (.int .i64 f.sure)) (by kernel_rfl) ⟨by go_simp,by go_simp⟩ (fun hS=>?_)
      refine e_take (i:=0) (v:=?_) rfl (by kernel_rfl) (fun _ _ _ h=>h) (by rfl) ?_ hS ?_
      rotate_left
      ·(intro w hSw;(try dsimp only at hSw);go_simp;try with_reducible rfl)
      try simp only [Act.put,List.setIfInBounds_toArray,List.set_cons_zero,List.set_cons_succ]
      refine e_take (i:=1) (v:=?_) rfl (by kernel_rfl) (fun _ _ _ h=>h) (by rfl) ?_ hS ?_
      rotate_left
      ·(intro w hSw;(try dsimp only at hSw);go_simp;try with_reducible rfl)
      try simp only [Act.put,List.setIfInBounds_toArray,List.set_cons_zero,List.set_cons_succ]
      refine e_take (i:=2) (v:=?_) rfl (by kernel_rfl) (fun _ _ _ h=>h) (by rfl) ?_ hS ?_
      rotate_left
      ·(intro w hSw;(try dsimp only at hSw);go_simp;try with_reducible rfl)
      try simp only [Act.put,List.setIfInBounds_toArray,List.set_cons_zero,List.set_cons_succ]
      refine e_take (i:=3) (v:=?_) rfl (by kernel_rfl) (fun _ _ _ h=>h) (by rfl) ?_ hS ?_
      rotate_left
      ·(intro w hSw;(try dsimp only at hSw);go_simp;try with_reducible rfl)
      try simp only [Act.put,List.setIfInBounds_toArray,List.set_cons_zero,List.set_cons_succ]
      refine e_take (i:=4) (v:=?_) rfl (by kernel_rfl) (fun _ _ _ h=>h) (by rfl) ?_ hS ?_
      rotate_left
      ·(intro w hSw;(try dsimp only at hSw);go_simp;try with_reducible rfl)
      try simp only [Act.put,List.setIfInBounds_toArray,List.set_cons_zero,List.set_cons_succ]
      refine e_take (i:=5) (v:=?_) rfl (by kernel_rfl) (fun _ _ _ h=>h) (by rfl) ?_ hS ?_
      rotate_left
      ·(intro w hSw;(try dsimp only at hSw);go_simp;try with_reducible rfl)
      try simp only [Act.put,List.setIfInBounds_toArray,List.set_cons_zero,List.set_cons_succ]
      refine e_take (i:=6) (v:=?_) rfl (by kernel_rfl) (fun _ _ _ h=>h) (by rfl) ?_ hS ?_
      rotate_left
      ·(intro w hSw;(try dsimp only at hSw);go_simp;try with_reducible rfl)
      try simp only [Act.put,List.setIfInBounds_toArray,List.set_cons_zero,List.set_cons_succ]
      refine e_take (i:=7) (v:=?_) rfl (by kernel_rfl) (fun _ _ _ h=>h) (by rfl) ?_ hS ?_
      rotate_left
      ·(intro w hSw;(try dsimp only at hSw);go_simp;try with_reducible rfl)
      try simp only [Act.put,List.setIfInBounds_toArray,List.set_cons_zero,List.set_cons_succ]
      refine e_take (i:=8) (v:=?_) rfl (by kernel_rfl) (fun _ _ _ h=>h) (by rfl) ?_ hS ?_
      rotate_left
      ·(intro w hSw;(try dsimp only at hSw);go_simp;try with_reducible rfl)
      try simp only [Act.put,List.setIfInBounds_toArray,List.set_cons_zero,List.set_cons_succ]
      refine e_take (i:=9) (v:=?_) rfl (by kernel_rfl) (fun _ _ _ h=>h) (by rfl) ?_ hS ?_
      rotate_left
      ·(intro w hSw;(try dsimp only at hSw);go_simp;try with_reducible rfl)
      try simp only [Act.put,List.setIfInBounds_toArray,List.set_cons_zero,List.set_cons_succ]
      refine e_take (i:=10) (v:=?_) rfl (by kernel_rfl) (fun _ _ _ h=>h) (by rfl) ?_ hS ?_
      rotate_left
      ·(intro w hSw;(try dsimp only at hSw);go_simp;try with_reducible rfl)
      try simp only [Act.put,List.setIfInBounds_toArray,List.set_cons_zero,List.set_cons_succ]
      refine e_take (i:=11) (v:=?_) rfl (by kernel_rfl) (fun _ _ _ h=>h) (by rfl) ?_ hS ?_
      rotate_left
      ·(intro w hSw;(try dsimp only at hSw);go_simp;try with_reducible rfl)
      try simp only [Act.put,List.setIfInBounds_toArray,List.set_cons_zero,List.set_cons_succ]
      refine e_take (i:=12) (v:=?_) rfl (by kernel_rfl) (fun _ _ _ h=>h) (by rfl) ?_ hS ?_
      rotate_left
      ·(intro w hSw;(try dsimp only at hSw);go_simp;try with_reducible rfl)
      try simp only [Act.put,List.setIfInBounds_toArray,List.set_cons_zero,List.set_cons_succ]
      refine e_take (i:=13) (v:=?_) rfl (by kernel_rfl) (fun _ _ _ h=>h) (by rfl) ?_ hS ?_
      rotate_left
      ·(intro w hSw;(try dsimp only at hSw);go_simp;try with_reducible rfl)
      try simp only [Act.put,List.setIfInBounds_toArray,List.set_cons_zero,List.set_cons_succ]
      refine e_take (i:=14) (v:=?_) rfl (by kernel_rfl) (fun _ _ _ h=>h) (by rfl) ?_ hS ?_
      rotate_left
      ·(intro w hSw;(try dsimp only at hSw);go_simp;try with_reducible rfl)
      try simp only [Act.put,List.setIfInBounds_toArray,List.set_cons_zero,List.set_cons_succ]
      refine e_take (i:=15) (v:=?_) rfl (by kernel_rfl) (fun _ _ _ h=>h) (by rfl) ?_ hS ?_
      rotate_left
      ·(intro w hSw;(try dsimp only at hSw);go_simp;try with_reducible rfl)
      try simp only [Act.put,List.setIfInBounds_toArray,List.set_cons_zero,List.set_cons_succ]
      refine e_take (i:=16) (v:=?_) rfl (by kernel_rfl) (fun _ _ _ h=>h) (by rfl) ?_ hS ?_
      rotate_left
      ·(intro w hSw;(try dsimp only at hSw);go_simp;try with_reducible rfl)
      try simp only [Act.put,List.setIfInBounds_toArray,List.set_cons_zero,List.set_cons_succ]
      refine e_take (i:=17) (v:=?_) rfl (by kernel_rfl) (fun _ _ _ h=>h) (by rfl) ?_ hS ?_
      rotate_left
      ·(intro w hSw;(try dsimp only at hSw);go_simp;try with_reducible rfl)
      try simp only [Act.put,List.setIfInBounds_toArray,List.set_cons_zero,List.set_cons_succ]
      refine e_take (i:=18) (v:=?_) rfl (by kernel_rfl) (fun _ _ _ h=>h) (by rfl) ?_ hS ?_
      rotate_left
      ·(intro w hSw;(try dsimp only at hSw);go_simp;try with_reducible rfl)
      try simp only [Act.put,List.setIfInBounds_toArray,List.set_cons_zero,List.set_cons_succ]
      refine e_take (i:=19) (v:=?_) rfl (by kernel_rfl) (fun _ _ _ h=>h) (by rfl) ?_ hS ?_
      rotate_left
      ·(intro w hSw;(try dsimp only at hSw);go_simp;try with_reducible rfl)
      try simp only [Act.put,List.setIfInBounds_toArray,List.set_cons_zero,List.set_cons_succ]
      refine e_pin (i:=20) rfl (by kernel_rfl) (fun K hK=>?_)
      go_simp
      go_at_call 38
      refine KQ.out.mono ?_
      rintro e w4 ⟨rfl,A4,c4,hp4,ho4⟩
      rw [← HPQ.out]
      rw [cr_swap] at ho4
      have b4:=HGC.out _ _ _ ho4
      have d0:w4.cell? ⟨af,0,none⟩=some (.slice av f.b.length cv):=cell_of b4 rfl
      have d1:w4.cell? ⟨af,1,none⟩=some (.int .i64 f.sure):=cell_of b4 rfl
      have z0:w4.frozen? ⟨af,0,none⟩=false:=free_of b4
      have HO4:=Lib.hid ho4
      have HP4:=Lib.hid hp4
      clear ho4 hp4 b4
      refine hK.out _ _ ⟨d0,d1⟩ (fun hS4=>?_)
      clear hK K hS
      have hS:=hS4
      try simp only [Act.put,List.setIfInBounds_toArray,List.set_cons_zero,List.set_cons_succ]
      refine e_take (i:=21) (v:=?_) rfl (by kernel_rfl) (fun _ _ _ h=>h) (by rfl) ?_ hS ?_
      rotate_left
      ·(intro w hSw;(try dsimp only at hSw);go_simp;try with_reducible rfl)
      try simp only [Act.put,List.setIfInBounds_toArray,List.set_cons_zero,List.set_cons_succ]
      refine e_take (i:=22) (v:=?_) rfl (by kernel_rfl) (fun _ _ _ h=>h) (by rfl) ?_ hS ?_
      rotate_left
      ·(intro w hSw;(try dsimp only at hSw);go_simp;try with_reducible rfl)
      try simp only [Act.put,List.setIfInBounds_toArray,List.set_cons_zero,List.set_cons_succ]
      refine e_take (i:=23) (v:=?_) rfl (by kernel_rfl) (fun _ _ _ h=>h) (by rfl) ?_ hS ?_
      rotate_left
      ·(intro w hSw;(try dsimp only at hSw);go_simp;try with_reducible rfl)
      try simp only [Act.put,List.setIfInBounds_toArray,List.set_cons_zero,List.set_cons_succ]
      refine e_take (i:=24) (v:=?_) rfl (by kernel_rfl) (fun _ _ _ h=>h) (by rfl) ?_ hS ?_
      rotate_left
      ·(intro w hSw;(try dsimp only at hSw);go_simp;try with_reducible rfl)
      try simp only [Act.put,List.setIfInBounds_toArray,List.set_cons_zero,List.set_cons_succ]
      refine e_last (i:=25) rfl (by kernel_rfl) (fun K hK=>?_)
      go_simp
      refine hK.out _ _ ?_
      clear hK K
      go_wp2_with fail
      go_meet
      exact⟨w4,A4,c4,rfl,HP4.out,HO4.out⟩
     case rest=>
      obtain⟨w4,A4,c4,rfl,hp4,ho4⟩:=hcut
      have b4:=HGC.out _ _ _ ho4
      have h5:=hp_setCell_same (o:=0) (v:=.slice av (f.sure+PQ) cv) b4
      have d0:(w4.setCell ⟨af,0,none⟩ (.slice av (f.sure+PQ) cv)).cell? ⟨af,0,none⟩=some (.slice av (f.sure+PQ) cv):=cell_of h5 rfl
      have d1:(w4.setCell ⟨af,0,none⟩ (.slice av (f.sure+PQ) cv)).cell? ⟨af,1,none⟩=some (.int .i64 f.sure):=cell_of h5 rfl
      have z1:(w4.setCell ⟨af,0,none⟩ (.slice av (f.sure+PQ) cv)).frozen? ⟨af,1,none⟩=false:=free_of h5
      have HR:=HREL.out _ _ _ hp4 ho4
      rw [Int.natCast_add] at HR
      have HR2:=Lib.hid HR
      clear HR hp4 ho4 b4 h5 HREL HGC KQ
      go_wp2_with fail
      go_roundw
      case rel=>(try rw [hw2]);exact HR2.out
      case measure=>(try rw [hw2]);simp [intOf];omega
    ·have hge:(N.length:Int)≤(j:Int):=by omega
     obtain rfl:j=N.length:=by omega
     rw [List.drop_length] at hcf
     have hcf2:fs=crashFiles N d.files p.tail:=hcf
     obtain⟨es2,clock2,hb2,h5⟩:=tab_clone (ho.drop) 0 rfl
     have C2:=Lib.hid (clone_dmap (w.heap.size+1) es2 clock2 _ hb2)
     have g0:=h5.block 3 rfl
     have y1:(wr.alloc (.map es2 clock2)).frozen? ⟨bd,1,none⟩=false:=free_of g0
     have x1:(wr.alloc (.map es2 clock2)).cell? ⟨bd,1,none⟩=some (.map (some bn)):=cell_of g0 rfl
     have x2:(wr.alloc (.map es2 clock2)).cell? ⟨bd,2,none⟩=some (.map (some bs)):=cell_of g0 rfl
     have x3:(wr.alloc (.map es2 clock2)).cell? ⟨bd,3,none⟩=some (.slice ac d.ch.length cc):=cell_of g0 rfl
     have x5:(wr.alloc (.map es2 clock2)).cell? ⟨bd,5,none⟩=some (.int .i64 (failV (dF d fs))):=cell_of g0 rfl
     have y2:(wr.alloc (.map es2 clock2)).frozen? ⟨bd,2,none⟩=false:=free_of g0
     have y3:(wr.alloc (.map es2 clock2)).frozen? ⟨bd,3,none⟩=false:=free_of g0
     have y5:(wr.alloc (.map es2 clock2)).frozen? ⟨bd,5,none⟩=false:=free_of g0
     have h6:=((((h5.put 3 rfl 1 (.map (some (w.heap.size+1)))).put 3 rfl 2 (.map (some wr.heap.size))).put 3 rfl 3 (.slice none 0 0)).put 3 rfl 5 (.int .i64 0)).rownil 86 4
     have h7:In F w (((((wr.alloc (.map es2 clock2)).setCell ⟨bd,1,none⟩ (.map (some (w.heap.size+1)))).setCell ⟨bd,2,none⟩ (.map (some wr.heap.size))).setCell ⟨bd,3,none⟩ (.slice none 0 0)).setCell ⟨bd,5,none⟩ (.int .i64 0)) (DkR bd (w.heap.size+1) wr.heap.size (.slice none 0 0) ads (dCrash d p)):=by
      have e1:(dCrash d p).files=fs:=by rw [hcf2,HNE.out];rfl
      have e2:(dCrash d p).now=N:=by rw [HNE.out];rfl
      have e3:(dCrash d p).sure=N:=by rw [HNE.out];rfl
      unfold DkR
      rw [e1,e2,e3]
      exact In.sel2 (R1:=[RowA 86 4 (.slice none 0 0) 0 [],NTab wr.heap.size ads N,NTab (w.heap.size+1) ads N,Cells w.heap.size #[.slice Aq q.length cq] 41,Cells bd (dkCells (dCrash d p) (w.heap.size+1) wr.heap.size (.slice none 0 0)) 64,NTab bn ads d.now,NTab bs ads d.sure,RowA 86 4 (.slice ac d.ch.length cc) d.ch.length (flatC ads d.ch)]) (R2:=filesR ads fs) h6 [4,2,1,0] (by decide) rfl
     have HF:=Lib.hid (HE.out _ _ _ hcf2 h7)
     clear hcf hcf2 hpk ho hfo hfl hb2 h5 g0 h6 h7 HE
     go_wp2_with fail
     refine C2.out.mono ?_
     rintro e w5 ⟨rfl,rfl⟩
     go_wp2_with fail
     go_end0
     exact HF.out
end
end Go.Proofs.YtpmmiljakbojaaaGreat
