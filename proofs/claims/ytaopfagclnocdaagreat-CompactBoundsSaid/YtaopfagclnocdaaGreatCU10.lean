/- Rows.CompactBoundsSaid -/
import Derived.Test.YtaopfagclnocdaaGreatCU9
import Derived.Test.YtaopfagclnocdaaGreatShelfL
import Derived.Sort.KeysCollected
import Derived.Test.YtaopfagclnocdaaGreatCU7
import Derived.Test.YtaopfagclnocdaaGreatCU1
import Derived.OrdersHeld
import Derived.StillTail
import Derived.Deep.RegionHeld
import Derived.Deep.DeepCutAuto
import Derived.Deep.AppendLies
import Derived.LoopTactic
import Derived.Deep.Light
import Derived.Test.YtaopfagclnocdaaGreatCU3
import Derived.DeepKeys4
namespace Go.Proofs.YtaopfagclnocdaaGreat
open Go.RowKit Go.Shelf
open Go.Maps (Keyed)
open Go.RowKit
set_option linter.unusedVariables false
set_option maxHeartbeats 64000000
set_option maxRecDepth 100000
def noValN:Value→Option (DataW Unit×List MemPlace):=fun _=>some (.lit (.bool true),[])
def keyStr:Value→List UInt8
 | .string s=>s.data.toList
 | _=>[]
def nmL (N:NmL):List (List UInt8):=N.map (fun x=>x.1.data.toList)
/-! ### the calls -/
section
variable {F0:List Nat} {w0 w:World} {R:List Asrt}
abbrev NmRowA (v:Value) (N:NmL):Asrt:=RowA 9 1 v N.length ((nmL N).map encStr)
end
section
variable {F0:List Nat} {w0 w:World} {R:List Asrt}
structure PkOk (F0:List Nat) (w0:World) (A:Option Addr) (c:Nat) (q:List UInt8):Prop where
 src:∀ w',Mod F0 w0 w'→Src w' A q.length 1 (u8s q)
 cap:q.length≤c
 room:c≤maxLen
def PickPost (q:List UInt8) (n pb i:Nat) (F0:List Nat) (w0:World) (R:List Asrt) (e:Ending) (w':World):Prop:=
 e=.returned (.int .i64 (pickN q n))∧∃ A c,PkOk F0 w0 A c q.tail∧In F0 w0 w' (R.set i (Cells pb #[.slice A q.tail.length c] 61))
end
section
variable {P:Program} {ops:Array Oper} {Q:Exit→Act→World→Prop} {md:Region.Mode} {S:World→Prop}
def wpAnyE (P:Program) (md:Region.Mode) (ops:Array Oper) (Q:Exit→Act→World→Prop) (S:World→Prop):Nat→Array Bool→Act→World→Prop
 | 0,listed,a,w=>Region.ready md ops listed=[]∧Q .normal a w
 | fuel+1,listed,a,w=>
  (Region.ready md ops listed=[]→Q .normal a w) ∧
  ∀ i∈Region.ready md ops listed,wpOp P ops Q i (fun a' w'=>(i+1 < ops.size→S w')∧wpAnyE P md ops Q S fuel (listed.setIfInBounds i true) a' w') a w
theorem wpAny_of_E:∀ (fuel:Nat) (listed:Array Bool) (a:Act) (w:World),wpAnyE P md ops Q S fuel listed a w→wpAny P md ops Q fuel listed a w
 | 0,_,_,_,h=>h
 | fuel+1,_,_,_,h=>⟨h.1,fun i hi=>wpOp_mono (fun a' w' h'=>wpAny_of_E fuel _ a' w' h'.2) (h.2 i hi)⟩
theorem chainB_last:Region.chainB md ops (ops.size - 1)=true:=
 List.all_eq_true.2 fun t ht=>by
  have:=List.mem_range.1 ht
  simp only [Bool.or_eq_true,decide_eq_true_eq];left;omega
theorem wpAnyE_first {i:Nat} {oi:Oper} {v:Value} (hi:ops[i]?=some oi) (hsel:∀ (j:Nat) (o:Oper) cs b,ops[j]?=some o→o.op≠.select cs b)
  (hQ:∀ c a w,Q (.panic c) (a.put oi.dst v) w→Q (.panic c) a w) (hs:Region.sinkB md ops (ops.size - 1)=true) (hin:i+1 < ops.size) :
  ∀ (fuel:Nat) (listed:Array Bool) (a:Act) (w:World),HeadInv md ops (ops.size - 1) listed →
   (∀ j oj,ops[j]?=some oj→j≠i→listed.getD j true=false→(∀ e∈oj.after,Region.binds md e=true→e.on≠i)→oi.apart ops oj=true) →
   i∈Region.ready md ops listed→YieldsIf P ops S oi v a→S w →
   wpAnyE P md ops Q S fuel (listed.setIfInBounds i true) (a.put oi.dst v) w→wpAnyE P md ops Q S (fuel+1) listed a w:=by
 intro fuel
 induction fuel with
 | zero=>
  intro listed a w inv _ hr hy hS H
  refine⟨fun h=>(by rw [h] at hr;cases hr),fun j hj=>?_⟩
  by_cases hji:j=i
  ·subst hji;exact hy.wpOp hi hS ⟨fun _=>hS,H⟩
  ·have:=ready_mono hj hji
   rw [H.1] at this
   cases this
 | succ fuel ih=>
  intro listed a w inv hfree hr hy hS H
  refine⟨fun h=>(by rw [h] at hr;cases hr),fun j hj=>?_⟩
  by_cases hji:j=i
  ·subst hji;exact hy.wpOp hi hS ⟨fun _=>hS,H⟩
  ·have h1:=H.2 j (ready_mono hj hji)
   have hjn:j < ops.size - 1:=by
    refine Nat.lt_of_not_le fun hle=>?_
    exact tail_waits hs chainB_last (by omega) inv (ops.size - 1 - i) i rfl (by omega) (mem_ready.1 hr).1 j hle hj
   obtain⟨hjun,oj,hoj,hall⟩:=mem_ready.1 hj
   have hnot:∀ e∈oj.after,Region.binds md e=true→e.on≠i:=fun e he hb heq=>by
    have h1:=hall e he hb
    have h0:=(mem_ready.1 hr).1
    rw [heq] at h1
    rcases Nat.lt_or_ge i listed.size with h' | h'
    ·simp [h'] at h0 h1;rw [h0] at h1;cases h1
    ·simp [Array.getElem?_eq_none h'] at h1
   have h2:=wpOp_putIf hoj (hfree j oj hoj hji hjun hnot) (fun cs b=>hsel i oi cs b hi) (fun cs b=>hsel j oj cs b hoj) hQ hy h1
   have hfree':∀ k ok,ops[k]?=some ok→k≠i→(listed.setIfInBounds j true).getD k true=false →
     (∀ e∈ok.after,Region.binds md e=true→e.on≠i)→oi.apart ops ok=true:=fun k ok hk hki hun hno=>by
    refine hfree k ok hk hki ?_ hno
    by_cases hjk:j=k
    ·subst hjk;exact hjun
    ·rw [getD_set_ne true hjk] at hun;exact hun
   refine wpOp_mono (fun a' w' h3=>⟨h3.2.1,ih (listed.setIfInBounds j true) a' w' (inv.set hj hjn) hfree' (ready_mono hr (Ne.symm hji)) h3.1 (h3.2.1 (by omega)) ?_⟩) h2
   rw [Array.setIfInBounds_comm _ _ hji]
   exact h3.2.2
theorem wpAnyE_done {listed:Array Bool} {a:Act} {w:World} (hr:Region.ready md ops listed=[]) (h:Q .normal a w):∀ fuel,wpAnyE P md ops Q S fuel listed a w
 | 0=>⟨hr,h⟩
 | _+1=>⟨fun _=>h,by rw [hr];simp⟩
variable {l:List Oper}
def EAt (P:Program) (l:List Oper) (Q:Exit→Act→World→Prop) (S:World→Prop) (fuel:Nat) (listed:Array Bool) (a:Act) (w:World):Prop:=
 HeadInv .any l.toArray (l.toArray.size - 1) listed→wpAnyE P .any l.toArray Q S fuel listed a w
def takeB (l:List Oper) (i:Nat) (listed:Array Bool):Bool:=
 Region.noSelect l.toArray && Region.sinkB .any l.toArray (l.toArray.size - 1) && decide (i+1 < l.toArray.size) && Region.free .any l.toArray listed i && (Region.ready .any l.toArray listed).contains i
theorem e_take {i:Nat} {oi:Oper} {v:Value} {fuel:Nat} {listed:Array Bool} {a:Act} {w:World} (hi:l[i]?=some oi) (hc:takeB l i listed=true)
  (hQ:∀ c a w,Q (.panic c) (a.put oi.dst v) w→Q (.panic c) a w) (hw:Region.wanted oi (yielded l.toArray a.tmps)=true) (hy:∀ w,S w→(execOp a.eval oi).run P w=.ok (.value v) w) (hS:S w)
  (h:EAt P l Q S fuel (listed.setIfInBounds i true) (a.put oi.dst v) w):EAt P l Q S (fuel+1) listed a w:=by
 simp only [takeB,Bool.and_eq_true,decide_eq_true_eq] at hc
 obtain⟨⟨⟨⟨h1,h2⟩,h3⟩,h4⟩,h5⟩:=hc
 have hi':l.toArray[i]?=some oi:=by simpa using hi
 have hr:i∈Region.ready .any l.toArray listed:=by simpa using h5
 intro inv
 exact wpAnyE_first hi' (Region.noSelect_spec h1) hQ h2 h3 fuel listed a w inv (Region.free_spec hi' h4) hr (Or.inl ⟨hw,hy⟩) hS (h (inv.set hr (by omega)))
def pinB (l:List Oper) (i:Nat) (listed:Array Bool):Bool:=decide (Region.ready .any l.toArray listed=[i]) && decide (i+1 < l.toArray.size)
theorem e_pin {i:Nat} {o:Oper} {fuel:Nat} {listed:Array Bool} {a:Act} {w:World} (hi:l[i]?=some o) (hc:pinB l i listed=true)
  (h:∀ K':Act→World→Prop,Shut (∀ a w,S w→(S w→EAt P l Q S fuel (listed.setIfInBounds i true) a w)→K' a w)→if Region.wanted o (yielded l.toArray a.tmps)=true then Oper.wp P o a w K' Q else K' (a.put o.dst undef) w):EAt P l Q S (fuel+1) listed a w:=by
 simp only [pinB,Bool.and_eq_true,decide_eq_true_eq] at hc
 have hi':l.toArray[i]?=some o:=by simpa using hi
 intro inv
 refine⟨fun h0=>(by rw [hc.1] at h0;cases h0),fun j hj=>?_⟩
 have hr:=hj
 rw [hc.1] at hj
 obtain rfl:j=i:=by simpa using hj
 have:=h (fun a' w'=>(j+1 < l.toArray.size→S w')∧wpAnyE P .any l.toArray Q S fuel (listed.setIfInBounds j true) a' w') (fun a w hS hn=>⟨fun _=>hS,hn hS (inv.set hr (by omega))⟩)
 unfold wpOp
 simp only [hi']
 by_cases hwd:Region.wanted o (yielded l.toArray a.tmps)=true
 ·rw [if_pos hwd] at this ⊢;exact Or.inl this
 ·rw [if_neg hwd] at this ⊢;exact this
def lastB (l:List Oper) (i:Nat) (listed:Array Bool):Bool:=decide (Region.ready .any l.toArray listed=[i]) && decide (i+1=l.toArray.size) && decide (Region.ready .any l.toArray (listed.setIfInBounds i true)=[])
theorem e_last {i:Nat} {o:Oper} {fuel:Nat} {listed:Array Bool} {a:Act} {w:World} (hi:l[i]?=some o) (hc:lastB l i listed=true)
  (h:∀ K':Act→World→Prop,Shut (∀ a w,Q .normal a w→K' a w)→if Region.wanted o (yielded l.toArray a.tmps)=true then Oper.wp P o a w K' Q else K' (a.put o.dst undef) w):EAt P l Q S (fuel+1) listed a w:=by
 simp only [lastB,Bool.and_eq_true,decide_eq_true_eq] at hc
 have hi':l.toArray[i]?=some o:=by simpa using hi
 intro inv
 refine⟨fun h0=>(by rw [hc.1.1] at h0;cases h0),fun j hj=>?_⟩
 rw [hc.1.1] at hj
 obtain rfl:j=i:=by simpa using hj
 have:=h (fun a' w'=>(j+1 < l.toArray.size→S w')∧wpAnyE P .any l.toArray Q S fuel (listed.setIfInBounds j true) a' w') (fun a w hQ=>⟨fun hlt=>by omega,wpAnyE_done hc.2 hQ _⟩)
 unfold wpOp
 simp only [hi']
 by_cases hwd:Region.wanted o (yielded l.toArray a.tmps)=true
 ·rw [if_pos hwd] at this ⊢;exact Or.inl this
 ·rw [if_neg hwd] at this ⊢;exact this
theorem e_start {id:Nat} {a:Act} {w:World} (S:World→Prop) (hm:P.follows .mixedOrders=true) (hS:S w.drew) (h:S w.drew→EAt P l Q S l.length (Array.replicate l.length false) a w.drew):(Code.region id l.toArray true).wp P Q a w:=by
 refine wp_region_any hm (wpAny_of_E (S:=S) _ _ _ _ ?_)
 have:=h hS ⟨by simp,fun j oj _ hl=>(by rw [getD_replicate_false] at hl;cases hl),fun t _ ht=>getD_in (by simpa using ht) (getD_replicate_false _ _)⟩
 simpa using this
end
section
variable {F0:List Nat} {w0 w:World} {R:List Asrt}
def dF (d:DiskD) (fs:List FileD):DiskD:=⟨d.quota,fs,d.now,d.sure,d.ch,d.ops,d.fail⟩
def CrR (d:DiskD) (N:NmL) (nb pb bd bn bs:Nat) (vch:Value) (ads:List Nat) (A:Option Addr) (q c:Nat):List Asrt:=
 NTab nb ads N::Cells pb #[.slice A q c] 61::DkR bd bn bs vch ads d
def CrRel1 (d:DiskD) (m nb pb bd bn bs:Nat) (vch:Value) (ads:List Nat) (A:Option Addr) (q c:Nat) (F:List Nat) (w:World) (i:Value) (wr:World):Prop:=
 ∃ k:Nat,k≤m∧i=.int .i64 k∧In F w wr (CrR d ((d.ch.take k).foldl nmDo d.sure) nb pb bd bn bs vch ads A q c)
def CrRel2 (d:DiskD) (N:NmL) (fs1:List FileD) (nv:Value) (nb pb bd bn bs:Nat) (vch:Value) (ads:List Nat) (F:List Nat) (w:World) (i:Value) (wr:World):Prop:=
 ∃ (k:Nat) (fs:List FileD) (A:Option Addr) (q:List UInt8) (c:Nat),k≤N.length∧i=.int .i64 k∧fs.length=d.files.length∧(∀ f∈fs,f.b.length≤1048576∧f.sure≤f.b.length)∧crashFiles (N.drop k) fs q=fs1∧PkOk F w A c q ∧
  In F w wr (NmRowA nv N::CrR (dF d fs) N nb pb bd bn bs vch ads A q.length c)
end
section
variable {P:Program} {ops:Array Oper} {Q:Exit→Act→World→Prop} {md:Region.Mode} {S:World→Prop} {N:Nat}
def chainW (md:Region.Mode) (ops:Array Oper) (n:Nat):Bool:=
 (List.range ops.size).all fun t=>decide (t≤n) || (List.range t).any fun s=>decide (n≤s) && Region.waitsFor md ops t s
theorem tail_waitsW {n:Nat} {listed:Array Bool} (hs:Region.sinkB md ops n=true) (hc:chainW md ops n=true) (hn:n < ops.size) (inv:HeadInv md ops n listed) :
  ∀ (d i:Nat),n - i=d→i < n→listed.getD i true=false→∀ t,n≤t→t ∉ Region.ready md ops listed:=by
 intro d
 induction d using Nat.strongRecOn with
 | _ d ih=>
  intro i hd hi hun t ht hr
  obtain⟨_,ot,hot,hall⟩:=mem_ready.1 hr
  have htlt:t < ops.size:=(Array.getElem?_eq_some_iff.1 hot).1
  by_cases htn:t=n
  ·subst htn
   have h1:=List.all_eq_true.1 hs i (List.mem_range.2 hi)
   obtain⟨j,hj,hj2⟩:=List.any_eq_true.1 h1
   simp only [Bool.and_eq_true,decide_eq_true_eq] at hj2
   obtain⟨oj,hoj,e,he,hb,hon⟩:=Region.waitsFor_spec hj2.2
   have hjle:j≤t:=by have:=List.mem_range.1 hj;omega
   by_cases hjt:j=t
   ·subst hjt
    have:oj=ot:=Option.some.inj (hoj.symm.trans hot)
    subst this
    have h2:=hall e he hb
    rw [hon,getD_both hun] at h2
    cases h2
   ·cases hl:listed.getD j false with
    | true=>
     have h2:=inv.closed j oj hoj hl e he hb
     rw [hon,getD_both hun] at h2
     cases h2
    | false=>
     have hjs:j < listed.size:=by rw [inv.size];omega
     exact ih (t - j) (by omega) j rfl (by omega) (getD_in hjs hl) t (Nat.le_refl _) hr
  ·have h1:=List.all_eq_true.1 hc t (List.mem_range.2 htlt)
   simp only [Bool.or_eq_true,decide_eq_true_eq] at h1
   rcases h1 with h1 | h1
   ·omega
   ·obtain⟨s,hs1,hs2⟩:=List.any_eq_true.1 h1
    simp only [Bool.and_eq_true,decide_eq_true_eq] at hs2
    have hst:=List.mem_range.1 hs1
    obtain⟨o',ho',e,he,hb,hon⟩:=Region.waitsFor_spec hs2.2
    have:o'=ot:=Option.some.inj (ho'.symm.trans hot)
    subst this
    have h2:=hall e he hb
    rw [hon,getD_both (inv.tail s hs2.1 (by omega))] at h2
    cases h2
def wpAnyN (P:Program) (md:Region.Mode) (ops:Array Oper) (Q:Exit→Act→World→Prop) (S:World→Prop) (N:Nat):Nat→Array Bool→Act→World→Prop
 | 0,listed,a,w=>Region.ready md ops listed=[]∧Q .normal a w
 | fuel+1,listed,a,w=>
  (Region.ready md ops listed=[]→Q .normal a w) ∧
  ∀ i∈Region.ready md ops listed,wpOp P ops Q i (fun a' w'=>(i < N→S w')∧wpAnyN P md ops Q S N fuel (listed.setIfInBounds i true) a' w') a w
theorem wpAny_of_N:∀ (fuel:Nat) (listed:Array Bool) (a:Act) (w:World),wpAnyN P md ops Q S N fuel listed a w→wpAny P md ops Q fuel listed a w
 | 0,_,_,_,h=>h
 | fuel+1,_,_,_,h=>⟨h.1,fun i hi=>wpOp_mono (fun a' w' h'=>wpAny_of_N fuel _ a' w' h'.2) (h.2 i hi)⟩
theorem wpAnyN_first {i:Nat} {oi:Oper} {v:Value} (hi:ops[i]?=some oi) (hsel:∀ (j:Nat) (o:Oper) cs b,ops[j]?=some o→o.op≠.select cs b)
  (hQ:∀ c a w,Q (.panic c) (a.put oi.dst v) w→Q (.panic c) a w) (hs:Region.sinkB md ops N=true) (hch:chainW md ops N=true) (hN:N < ops.size) (hin:i < N) :
  ∀ (fuel:Nat) (listed:Array Bool) (a:Act) (w:World),HeadInv md ops N listed →
   (∀ j oj,ops[j]?=some oj→j≠i→listed.getD j true=false→(∀ e∈oj.after,Region.binds md e=true→e.on≠i)→oi.apart ops oj=true) →
   i∈Region.ready md ops listed→YieldsIf P ops S oi v a→S w →
   wpAnyN P md ops Q S N fuel (listed.setIfInBounds i true) (a.put oi.dst v) w→wpAnyN P md ops Q S N (fuel+1) listed a w:=by
 intro fuel
 induction fuel with
 | zero=>
  intro listed a w inv _ hr hy hS H
  refine⟨fun h=>(by rw [h] at hr;cases hr),fun j hj=>?_⟩
  by_cases hji:j=i
  ·subst hji;exact hy.wpOp hi hS ⟨fun _=>hS,H⟩
  ·have:=ready_mono hj hji
   rw [H.1] at this
   cases this
 | succ fuel ih=>
  intro listed a w inv hfree hr hy hS H
  refine⟨fun h=>(by rw [h] at hr;cases hr),fun j hj=>?_⟩
  by_cases hji:j=i
  ·subst hji;exact hy.wpOp hi hS ⟨fun _=>hS,H⟩
  ·have h1:=H.2 j (ready_mono hj hji)
   have hjn:j < N:=by
    refine Nat.lt_of_not_le fun hle=>?_
    exact tail_waitsW hs hch hN inv (N - i) i rfl hin (mem_ready.1 hr).1 j hle hj
   obtain⟨hjun,oj,hoj,hall⟩:=mem_ready.1 hj
   have hnot:∀ e∈oj.after,Region.binds md e=true→e.on≠i:=fun e he hb heq=>by
    have h1:=hall e he hb
    have h0:=(mem_ready.1 hr).1
    rw [heq] at h1
    rcases Nat.lt_or_ge i listed.size with h' | h'
    ·simp [h'] at h0 h1;rw [h0] at h1;cases h1
    ·simp [Array.getElem?_eq_none h'] at h1
   have h2:=wpOp_putIf hoj (hfree j oj hoj hji hjun hnot) (fun cs b=>hsel i oi cs b hi) (fun cs b=>hsel j oj cs b hoj) hQ hy h1
   have hfree':∀ k ok,ops[k]?=some ok→k≠i→(listed.setIfInBounds j true).getD k true=false →
     (∀ e∈ok.after,Region.binds md e=true→e.on≠i)→oi.apart ops ok=true:=fun k ok hk hki hun hno=>by
    refine hfree k ok hk hki ?_ hno
    by_cases hjk:j=k
    ·subst hjk;exact hjun
    ·rw [getD_set_ne true hjk] at hun;exact hun
   refine wpOp_mono (fun a' w' h3=>⟨h3.2.1,ih (listed.setIfInBounds j true) a' w' (inv.set hj hjn) hfree' (ready_mono hr (Ne.symm hji)) h3.1 (h3.2.1 hjn) ?_⟩) h2
   rw [Array.setIfInBounds_comm _ _ hji]
   exact h3.2.2
theorem wpAnyN_tail:∀ (fuel:Nat) (listed:Array Bool) (a:Act) (w:World),(∀ j,j < N→listed.getD j false=true)→wpAnyE P md ops Q (fun _=>True) fuel listed a w→wpAnyN P md ops Q S N fuel listed a w
 | 0,_,_,_,_,h=>h
 | fuel+1,listed,a,w,hl,h=>⟨h.1,fun i hi=>wpOp_mono (fun a' w' h'=>⟨fun hiN=>by
   have h1:=(mem_ready.1 hi).1
   have h2:=hl i hiN
   rcases Nat.lt_or_ge i listed.size with h' | h'
   ·simp [h'] at h1 h2;rw [h1] at h2;cases h2
   ·simp [Array.getElem?_eq_none h'] at h2,wpAnyN_tail fuel _ a' w' (fun j hj=>getD_set_true (hl j hj)) h'.2⟩) (h.2 i hi)⟩
variable {l:List Oper}
def NAt (P:Program) (l:List Oper) (Q:Exit→Act→World→Prop) (S:World→Prop) (N:Nat) (fuel:Nat) (listed:Array Bool) (a:Act) (w:World):Prop:=
 HeadInv .any l.toArray N listed→wpAnyN P .any l.toArray Q S N fuel listed a w
def takeN (l:List Oper) (N i:Nat) (listed:Array Bool):Bool:=
 Region.noSelect l.toArray && Region.sinkB .any l.toArray N && chainW .any l.toArray N && decide (N < l.toArray.size) && decide (i < N) && Region.free .any l.toArray listed i && (Region.ready .any l.toArray listed).contains i
theorem n_take {i:Nat} {oi:Oper} {v:Value} {fuel:Nat} {listed:Array Bool} {a:Act} {w:World} (hi:l[i]?=some oi) (hc:takeN l N i listed=true)
  (hQ:∀ c a w,Q (.panic c) (a.put oi.dst v) w→Q (.panic c) a w) (hw:Region.wanted oi (yielded l.toArray a.tmps)=true) (hy:∀ w,S w→(execOp a.eval oi).run P w=.ok (.value v) w) (hS:S w)
  (h:NAt P l Q S N fuel (listed.setIfInBounds i true) (a.put oi.dst v) w):NAt P l Q S N (fuel+1) listed a w:=by
 simp only [takeN,Bool.and_eq_true,decide_eq_true_eq] at hc
 obtain⟨⟨⟨⟨⟨⟨h1,h2⟩,h2'⟩,h3'⟩,h3⟩,h4⟩,h5⟩:=hc
 have hi':l.toArray[i]?=some oi:=by simpa using hi
 have hr:i∈Region.ready .any l.toArray listed:=by simpa using h5
 intro inv
 exact wpAnyN_first hi' (Region.noSelect_spec h1) hQ h2 h2' h3' h3 fuel listed a w inv (Region.free_spec hi' h4) hr (Or.inl ⟨hw,hy⟩) hS (h (inv.set hr h3))
def headB (N n:Nat) (listed:Array Bool):Bool:=decide (N+1≤n) && (List.range N).all fun j=>listed.getD j false
theorem n_tail {fuel:Nat} {listed:Array Bool} {a:Act} {w:World} (hc:headB N l.toArray.size listed=true) (h:EAt P l Q (fun _=>True) fuel listed a w):NAt P l Q S N fuel listed a w:=by
 simp only [headB,Bool.and_eq_true,decide_eq_true_eq] at hc
 intro inv
 refine wpAnyN_tail fuel listed a w (fun j hj=>List.all_eq_true.1 hc.2 j (List.mem_range.2 hj)) (h ⟨inv.size,inv.closed,fun t ht ht'=>inv.tail t (by omega) ht'⟩)
theorem n_start {id:Nat} {a:Act} {w:World} (N:Nat) (S:World→Prop) (hm:P.follows .mixedOrders=true) (hS:S w.drew) (h:S w.drew→NAt P l Q S N l.length (Array.replicate l.length false) a w.drew):(Code.region id l.toArray true).wp P Q a w:=by
 refine wp_region_any hm (wpAny_of_N (S:=S) (N:=N) _ _ _ _ ?_)
 have:=h hS ⟨by simp,fun j oj _ hl=>(by rw [getD_replicate_false] at hl;cases hl),fun t _ ht=>getD_in (by simpa using ht) (getD_replicate_false _ _)⟩
 simpa using this
end
section
variable {P:Program} {Q:Exit→Act→World→Prop} {S:World→Prop} {l:List Oper}
def twoB (l:List Oper) (i j:Nat) (listed:Array Bool):Bool:=decide (Region.ready .any l.toArray listed=[i,j]) && decide (i+1 < l.toArray.size) && decide (j+1 < l.toArray.size)
theorem e_two {i j:Nat} {oi oj:Oper} {fuel:Nat} {listed:Array Bool} {a:Act} {w:World} (hi:l[i]?=some oi) (hj:l[j]?=some oj) (hc:twoB l i j listed=true)
  (h1:∀ K':Act→World→Prop,Shut (∀ a w,S w→(S w→EAt P l Q S fuel (listed.setIfInBounds i true) a w)→K' a w)→if Region.wanted oi (yielded l.toArray a.tmps)=true then Oper.wp P oi a w K' Q else K' (a.put oi.dst undef) w)
  (h2:∀ K':Act→World→Prop,Shut (∀ a w,S w→(S w→EAt P l Q S fuel (listed.setIfInBounds j true) a w)→K' a w)→if Region.wanted oj (yielded l.toArray a.tmps)=true then Oper.wp P oj a w K' Q else K' (a.put oj.dst undef) w):EAt P l Q S (fuel+1) listed a w:=by
 simp only [twoB,Bool.and_eq_true,decide_eq_true_eq] at hc
 obtain⟨⟨hc1,hc2⟩,hc3⟩:=hc
 have hi':l.toArray[i]?=some oi:=by simpa using hi
 have hj':l.toArray[j]?=some oj:=by simpa using hj
 intro inv
 refine⟨fun h0=>(by rw [h0] at hc1;cases hc1),fun k hk=>?_⟩
 have hr:=hk
 rw [hc1] at hk
 simp only [List.mem_cons,List.not_mem_nil,or_false] at hk
 rcases hk with rfl | rfl
 ·have:=h1 (fun a' w'=>(k+1 < l.toArray.size→S w')∧wpAnyE P .any l.toArray Q S fuel (listed.setIfInBounds k true) a' w') (fun a w hS hn=>⟨fun _=>hS,hn hS (inv.set hr (by omega))⟩)
  unfold wpOp
  simp only [hi']
  by_cases hwd:Region.wanted oi (yielded l.toArray a.tmps)=true
  ·rw [if_pos hwd] at this ⊢;exact Or.inl this
  ·rw [if_neg hwd] at this ⊢;exact this
 ·have:=h2 (fun a' w'=>(k+1 < l.toArray.size→S w')∧wpAnyE P .any l.toArray Q S fuel (listed.setIfInBounds k true) a' w') (fun a w hS hn=>⟨fun _=>hS,hn hS (inv.set hr (by omega))⟩)
  unfold wpOp
  simp only [hj']
  by_cases hwd:Region.wanted oj (yielded l.toArray a.tmps)=true
  ·rw [if_pos hwd] at this ⊢;exact Or.inl this
  ·rw [if_neg hwd] at this ⊢;exact this
end
section
variable {F0:List Nat} {w0 w:World} {R:List Asrt} {br:Nat} {s:RdS}
def FlPost (r:Fl×Bool×RdS) (br:Nat) (F0:List Nat) (w0:World) (R:List Asrt) (e:Ending) (w':World):Prop:=e=.returned (.tuple #[.agg (encF r.1),.bool r.2.1])∧In F0 w0 w' (RdB br r.2.2::R)
structure FlFacts (w:World) (b8 b0:Nat) (y:Fl):Prop where
 y0:w.cell? ⟨b8,0,none⟩=some (.int .u32 y.t.src)
 y1:w.cell? ⟨b8,1,none⟩=some (.int .u32 y.t.dst)
 y2:w.cell? ⟨b8,2,none⟩=some (.int .i64 y.t.proto)
 y3:w.cell? ⟨b8,3,none⟩=some (.int .i64 y.t.sport)
 y4:w.cell? ⟨b8,4,none⟩=some (.int .i64 y.t.dport)
 y5:w.cell? ⟨b8,5,none⟩=some (.int .i64 y.bk)
 y6:w.cell? ⟨b8,6,none⟩=some (.int .i64 y.gen)
 y7:w.cell? ⟨b8,7,none⟩=some (.int .i64 y.seen)
 z0:w.cell? ⟨b0,0,none⟩=some (.int .u32 0)
 z1:w.cell? ⟨b0,1,none⟩=some (.int .u32 0)
 z2:w.cell? ⟨b0,2,none⟩=some (.int .i64 0)
 z3:w.cell? ⟨b0,3,none⟩=some (.int .i64 0)
 z4:w.cell? ⟨b0,4,none⟩=some (.int .i64 0)
 z5:w.cell? ⟨b0,5,none⟩=some (.int .i64 0)
 z6:w.cell? ⟨b0,6,none⟩=some (.int .i64 0)
 z7:w.cell? ⟨b0,7,none⟩=some (.int .i64 0)
 fz:∀ j,w.frozen? ⟨b0,j,none⟩=false
end
section
variable {F0:List Nat} {w0 w:World} {R:List Asrt} {br:Nat} {s:RdS}
def BrRel (v:Int) (n:Nat) (s:RdS) (br:Nat) (F0:List Nat) (w0:World) (R:List Asrt) (pv i:Value) (wr:World):Prop:=
 ∃ k:Nat,k≤n∧i=.int .i64 k∧In F0 w0 wr (RdB br (rdBks v k s).2::BkR pv (rdBks v k s).1::R)
def BrPost (v:Int) (n:Nat) (s:RdS) (br:Nat) (F0:List Nat) (w0:World) (R:List Asrt) (e:Ending) (w':World):Prop:=
 ∃ pv,e=.returned pv∧In F0 w0 w' (RdB br (rdBks v n s).2::BkR pv (rdBks v n s).1::R)
end
structure RcY (w:World) (b:Nat) (y:Rec) (pv:Value):Prop where
 y0:w.cell? ⟨b,0,none⟩=some (.int .i64 y.kind)
 y1:w.cell? ⟨b,1,none⟩=some (.int .u32 y.fl.t.src)
 y2:w.cell? ⟨b,2,none⟩=some (.int .u32 y.fl.t.dst)
 y3:w.cell? ⟨b,3,none⟩=some (.int .i64 y.fl.t.proto)
 y4:w.cell? ⟨b,4,none⟩=some (.int .i64 y.fl.t.sport)
 y5:w.cell? ⟨b,5,none⟩=some (.int .i64 y.fl.t.dport)
 y6:w.cell? ⟨b,6,none⟩=some (.int .i64 y.fl.bk)
 y7:w.cell? ⟨b,7,none⟩=some (.int .i64 y.fl.gen)
 y8:w.cell? ⟨b,8,none⟩=some (.int .i64 y.fl.seen)
 y9:w.cell? ⟨b,9,none⟩=some (.int .i64 y.gen)
 y10:w.cell? ⟨b,10,none⟩=some (pv)
 y11:w.cell? ⟨b,11,none⟩=some (.int .i64 y.bk)
 y12:w.cell? ⟨b,12,none⟩=some (.int .i64 y.till)
 y13:w.cell? ⟨b,13,none⟩=some (.int .i64 y.count)
 fz:∀ j,w.frozen? ⟨b,j,none⟩=false
section
variable {F0:List Nat} {w0 w:World} {R:List Asrt} {br:Nat} {s:RdS}
theorem rc_y {b:Nat} {y:Rec} {pv:Value} (h:w.heap[b]?=some (.cells (encRL y pv).toArray 45 (0,0))):RcY w b y pv:=
 ⟨cell_of h rfl,cell_of h rfl,cell_of h rfl,cell_of h rfl,cell_of h rfl,cell_of h rfl,cell_of h rfl,cell_of h rfl,cell_of h rfl,cell_of h rfl,cell_of h rfl,cell_of h rfl,cell_of h rfl,cell_of h rfl,fun j=>free_of h⟩
def RrPost (r:Rec×Bool×RdS) (br:Nat) (F0:List Nat) (w0:World) (R:List Asrt) (e:Ending) (w':World):Prop:=
 ∃ pv,e=.returned (.tuple #[.agg (encRL r.1 pv).toArray,.bool r.2.1])∧In F0 w0 w' (BkR pv r.1.bks::RdB br r.2.2::R)
end
section
variable {F0:List Nat} {w0 w:World} {R:List Asrt} {br:Nat} {s:RdS}
end
section
variable {F0:List Nat} {w0 w:World} {R:List Asrt}
def RDecPost (r:Rec×Int) (F0:List Nat) (w0:World) (R:List Asrt) (e:Ending) (w':World):Prop:=
 ∃ pv,e=.returned (.tuple #[.agg (encRL r.1 pv).toArray,.int .i64 r.2])∧In F0 w0 w' (BkR pv r.1.bks::R)
theorem bks_row {v:Value} {l:List Bk} {a:Option Addr} {n c:Nat} (hv:v=.slice a n c) (i:Nat) (hA:R[i]?=some (BkR v l)):BksAt F0 w0 R a l:=by
 intro w' h'
 obtain⟨F,r⟩:=h'.get i hA
 subst hv
 exact r.all
end
theorem laidOutT:laidOutB Tryz.prog=true:=by kernel_rfl
theorem tupLaw:Keyed Tryz.prog 41:=Keyed.of_law (deep_law_laid laidOutT (m:=3) (by omega) (of_decide_eq_true (by kernel_rfl)) (by kernel_rfl) (by kernel_rfl))
theorem wf_u32 {n:Int} (h0:0≤n) (h1:n < 4294967296):(Lit.int .u32 n).wf=true:=by
 simp [Lit.wf,IntKind.min,IntKind.max,IntKind.signed,IntKind.bits];omega
theorem wf_i64 {n:Int} (h0:-9223372036854775808≤n) (h1:n≤9223372036854775807):(Lit.int .i64 n).wf=true:=by
 simp [Lit.wf,IntKind.min,IntKind.max,IntKind.signed,IntKind.bits];omega
theorem keyOf_five {P:Program} {T tu ti:TypeId} {f0 f1 f2 f3 f4:Field} (hu:P.underlying T=some (.struct #[f0,f1,f2,f3,f4])) (u1:P.underlying tu=some (.int .u32)) (u2:P.underlying ti=some (.int .i64))
  (e0:f0.type=tu∧f0.offset=0) (e1:f1.type=tu∧f1.offset=1) (e2:f2.type=ti∧f2.offset=2) (e3:f3.type=ti∧f3.offset=3) (e4:f4.type=ti∧f4.offset=4)
  (hn : #[f0, f1, f2, f3, f4].all (·.name != "_") = true) (c1 : P.cellsOf tu = 1) (c2 : P.cellsOf ti = 1) (c3 : P.cellsOf T = 5) (k1 : P.keyType T = true) (hs : 0 < P.types.size)
  {a b c d e:Int} (w1:(Lit.int .u32 a).wf=true) (w2:(Lit.int .u32 b).wf=true) (w3:(Lit.int .i64 c).wf=true) (w4:(Lit.int .i64 d).wf=true) (w5:(Lit.int .i64 e).wf=true) :
  ∃ l,keyOf P T (.agg #[.int .u32 a,.int .u32 b,.int .i64 c,.int .i64 d,.int .i64 e])=some l:=by
 obtain⟨m,hm⟩:∃ m,P.types.size=m+1:=⟨P.types.size - 1,by omega⟩
 unfold keyOf
 rw [hu]
 simp only [k1,Value.formed,hu,c3,hm,Program.keyLits,Value.cells,List.size_toArray,List.length_cons,List.length_nil,Nat.zero_add,Nat.reduceAdd,beq_self_eq_true,Bool.and_self,if_true,and_self,
  List.mapM_cons,List.mapM_nil,e0,e1,e2,e3,e4,c1,c2,u1,u2,w1,w2,w3,w4,w5,List.drop,List.take]
 rw [if_pos ⟨trivial,hn⟩]
 exact⟨_,rfl⟩
theorem keyOf_tup {t:Tup} (h:WfT t):∃ l,keyOf Tryz.prog 41 (.agg (encT t))=some l:=
 keyOf_five Tryz.underlying41 Tryz.underlying39 Tryz.underlying3 ⟨rfl,rfl⟩ ⟨rfl,rfl⟩ ⟨rfl,rfl⟩ ⟨rfl,rfl⟩ ⟨rfl,rfl⟩ (by decide +kernel) (by kernel_rfl) (by kernel_rfl) (by kernel_rfl) (by kernel_rfl) (of_decide_eq_true (by kernel_rfl))
  (wf_u32 h.s0 h.s1) (wf_u32 h.d0 h.d1) (wf_i64 h.p0 h.p1) (wf_i64 h.sp0 h.sp1) (wf_i64 h.dp0 h.dp1)
end Go.Proofs.YtaopfagclnocdaaGreat
