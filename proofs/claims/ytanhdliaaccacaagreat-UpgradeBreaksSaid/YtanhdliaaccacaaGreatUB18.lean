/- .. -/
import Derived.Test.YtanhdliaaccacaaGreatUB17
import Derived.Test.YtanhdliaaccacaaGreatUB14
namespace Go.Proofs.YtanhdliaaccacaaGreat
open Go.RowKit
set_option linter.unusedVariables false
set_option maxHeartbeats 64000000
set_option maxRecDepth 100000
section
variable {P:Program} {ops:Array Oper} {Q:Exit→Act→World→Prop} {md:Region.Mode} {S:World→Prop} {N:Nat}
def KX (md:Region.Mode) (ops:Array Oper) (n:Nat):Bool:=
 (List.range ops.size).all fun t=>decide (t≤n) || (List.range t).any fun s=>decide (n≤s) && Region.waitsFor md ops t s
theorem IE {n:Nat} {listed:Array Bool} (hs:Region.sinkB md ops n=true) (hc:KX md ops n=true) (hn:n < ops.size) (inv:HeadInv md ops n listed) :
  ∀ (d i:Nat),n - i=d→i < n→listed.getD i true=false→∀ t,n≤t→t ∉ Region.ready md ops listed:=by
 intro d
 induction d using Nat.strongRecOn with
 | _ d ih=>
  intro i hd hi hun t ht hr
  obtain⟨_,ot,hot,hall⟩:=mem_ready.1 hr
  have htlt:t < ops.size:=(Array.getElem?_eq_some_iff.1 hot).1
  by_cases htn:t=n
  ·subst htn
   have h1:=List.all_eq_true.1 hs i (List.mem_range.2 hi)
   obtain⟨j,hj,hj2⟩:=List.any_eq_true.1 h1
   simp only [Bool.and_eq_true,decide_eq_true_eq] at hj2
   obtain⟨oj,hoj,e,he,hb,hon⟩:=Region.waitsFor_spec hj2.2
   have hjle:j≤t:=by have:=List.mem_range.1 hj;omega
   by_cases hjt:j=t
   ·subst hjt
    have:oj=ot:=Option.some.inj (hoj.symm.trans hot)
    subst this
    have h2:=hall e he hb
    rw [hon,getD_both hun] at h2
    cases h2
   ·cases hl:listed.getD j false with
    | true=>
     have h2:=inv.closed j oj hoj hl e he hb
     rw [hon,getD_both hun] at h2
     cases h2
    | false=>
     have hjs:j < listed.size:=by rw [inv.size];omega
     exact ih (t - j) (by omega) j rfl (by omega) (getD_in hjs hl) t (Nat.le_refl _) hr
  ·have h1:=List.all_eq_true.1 hc t (List.mem_range.2 htlt)
   simp only [Bool.or_eq_true,decide_eq_true_eq] at h1
   rcases h1 with h1 | h1
   ·omega
   ·obtain⟨s,hs1,hs2⟩:=List.any_eq_true.1 h1
    simp only [Bool.and_eq_true,decide_eq_true_eq] at hs2
    have hst:=List.mem_range.1 hs1
    obtain⟨o',ho',e,he,hb,hon⟩:=Region.waitsFor_spec hs2.2
    have:o'=ot:=Option.some.inj (ho'.symm.trans hot)
    subst this
    have h2:=hall e he hb
    rw [hon,getD_both (inv.tail s hs2.1 (by omega))] at h2
    cases h2
def yh (P:Program) (md:Region.Mode) (ops:Array Oper) (Q:Exit→Act→World→Prop) (S:World→Prop) (N:Nat):Nat→Array Bool→Act→World→Prop
 | 0,listed,a,w=>Region.ready md ops listed=[]∧Q .normal a w
 | fuel+1,listed,a,w=>
  (Region.ready md ops listed=[]→Q .normal a w) ∧
  ∀ i∈Region.ready md ops listed,wpOp P ops Q i (fun a' w'=>(i < N→S w')∧yh P md ops Q S N fuel (listed.setIfInBounds i true) a' w') a w
theorem Bz:∀ (fuel:Nat) (listed:Array Bool) (a:Act) (w:World),yh P md ops Q S N fuel listed a w→wpAny P md ops Q fuel listed a w
 | 0,_,_,_,h=>h
 | fuel+1,_,_,_,h=>⟨h.1,fun i hi=>wpOp_mono (fun a' w' h'=>Bz fuel _ a' w' h'.2) (h.2 i hi)⟩
theorem Fj {i:Nat} {oi:Oper} {v:Value} (hi:ops[i]?=some oi) (hsel:∀ (j:Nat) (o:Oper) cs b,ops[j]?=some o→o.op≠.select cs b)
  (hQ:∀ c a w,Q (.panic c) (a.put oi.dst v) w→Q (.panic c) a w) (hs:Region.sinkB md ops N=true) (hch:KX md ops N=true) (hN:N < ops.size) (hin:i < N) :
  ∀ (fuel:Nat) (listed:Array Bool) (a:Act) (w:World),HeadInv md ops N listed →
   (∀ j oj,ops[j]?=some oj→j≠i→listed.getD j true=false→(∀ e∈oj.after,Region.binds md e=true→e.on≠i)→oi.apart ops oj=true) →
   i∈Region.ready md ops listed→YieldsIf P ops S oi v a→S w →
   yh P md ops Q S N fuel (listed.setIfInBounds i true) (a.put oi.dst v) w→yh P md ops Q S N (fuel+1) listed a w:=by
 intro fuel
 induction fuel with
 | zero=>
  intro listed a w inv _ hr hy hS H
  refine⟨fun h=>(by rw [h] at hr;cases hr),fun j hj=>?_⟩
  by_cases hji:j=i
  ·subst hji;exact hy.wpOp hi hS ⟨fun _=>hS,H⟩
  ·have:=ready_mono hj hji
   rw [H.1] at this
   cases this
 | succ fuel ih=>
  intro listed a w inv hfree hr hy hS H
  refine⟨fun h=>(by rw [h] at hr;cases hr),fun j hj=>?_⟩
  by_cases hji:j=i
  ·subst hji;exact hy.wpOp hi hS ⟨fun _=>hS,H⟩
  ·have h1:=H.2 j (ready_mono hj hji)
   have hjn:j < N:=by
    refine Nat.lt_of_not_le fun hle=>?_
    exact IE hs hch hN inv (N - i) i rfl hin (mem_ready.1 hr).1 j hle hj
   obtain⟨hjun,oj,hoj,hall⟩:=mem_ready.1 hj
   have hnot:∀ e∈oj.after,Region.binds md e=true→e.on≠i:=fun e he hb heq=>by
    have h1:=hall e he hb
    have h0:=(mem_ready.1 hr).1
    rw [heq] at h1
    rcases Nat.lt_or_ge i listed.size with h' | h'
    ·simp [h'] at h0 h1;rw [h0] at h1;cases h1
    ·simp [Array.getElem?_eq_none h'] at h1
   have h2:=wpOp_putIf hoj (hfree j oj hoj hji hjun hnot) (fun cs b=>hsel i oi cs b hi) (fun cs b=>hsel j oj cs b hoj) hQ hy h1
   have hfree':∀ k ok,ops[k]?=some ok→k≠i→(listed.setIfInBounds j true).getD k true=false →
     (∀ e∈ok.after,Region.binds md e=true→e.on≠i)→oi.apart ops ok=true:=fun k ok hk hki hun hno=>by
    refine hfree k ok hk hki ?_ hno
    by_cases hjk:j=k
    ·subst hjk;exact hjun
    ·rw [getD_set_ne true hjk] at hun;exact hun
   refine wpOp_mono (fun a' w' h3=>⟨h3.2.1,ih (listed.setIfInBounds j true) a' w' (inv.set hj hjn) hfree' (ready_mono hr (Ne.symm hji)) h3.1 (h3.2.1 hjn) ?_⟩) h2
   rw [Array.setIfInBounds_comm _ _ hji]
   exact h3.2.2
theorem yS:∀ (fuel:Nat) (listed:Array Bool) (a:Act) (w:World),(∀ j,j < N→listed.getD j false=true)→ou P md ops Q (fun _=>True) fuel listed a w→yh P md ops Q S N fuel listed a w
 | 0,_,_,_,_,h=>h
 | fuel+1,listed,a,w,hl,h=>⟨h.1,fun i hi=>wpOp_mono (fun a' w' h'=>⟨fun hiN=>by
   have h1:=(mem_ready.1 hi).1
   have h2:=hl i hiN
   rcases Nat.lt_or_ge i listed.size with h' | h'
   ·simp [h'] at h1 h2;rw [h1] at h2;cases h2
   ·simp [Array.getElem?_eq_none h'] at h2,yS fuel _ a' w' (fun j hj=>getD_set_true (hl j hj)) h'.2⟩) (h.2 i hi)⟩
variable {l:List Oper}
def NAt (P:Program) (l:List Oper) (Q:Exit→Act→World→Prop) (S:World→Prop) (N:Nat) (fuel:Nat) (listed:Array Bool) (a:Act) (w:World):Prop:=
 HeadInv .any l.toArray N listed→yh P .any l.toArray Q S N fuel listed a w
def takeN (l:List Oper) (N i:Nat) (listed:Array Bool):Bool:=
 Region.noSelect l.toArray && Region.sinkB .any l.toArray N && KX .any l.toArray N && decide (N < l.toArray.size) && decide (i < N) && Region.free .any l.toArray listed i && (Region.ready .any l.toArray listed).contains i
theorem ni {i:Nat} {oi:Oper} {v:Value} {fuel:Nat} {listed:Array Bool} {a:Act} {w:World} (hi:l[i]?=some oi) (hc:takeN l N i listed=true)
  (hQ:∀ c a w,Q (.panic c) (a.put oi.dst v) w→Q (.panic c) a w) (hw:Region.wanted oi (yielded l.toArray a.tmps)=true) (hy:∀ w,S w→(execOp a.eval oi).run P w=.ok (.value v) w) (hS:S w)
  (h:NAt P l Q S N fuel (listed.setIfInBounds i true) (a.put oi.dst v) w):NAt P l Q S N (fuel+1) listed a w:=by
 simp only [takeN,Bool.and_eq_true,decide_eq_true_eq] at hc
 obtain⟨⟨⟨⟨⟨⟨h1,h2⟩,h2'⟩,h3'⟩,h3⟩,h4⟩,h5⟩:=hc
 have hi':l.toArray[i]?=some oi:=by simpa using hi
 have hr:i∈Region.ready .any l.toArray listed:=by simpa using h5
 intro inv
 exact Fj hi' (Region.noSelect_spec h1) hQ h2 h2' h3' h3 fuel listed a w inv (Region.free_spec hi' h4) hr (Or.inl ⟨hw,hy⟩) hS (h (inv.set hr h3))
def WG (N n:Nat) (listed:Array Bool):Bool:=decide (N+1≤n) && (List.range N).all fun j=>listed.getD j false
theorem XR {fuel:Nat} {listed:Array Bool} {a:Act} {w:World} (hc:WG N l.toArray.size listed=true) (h:TP P l Q (fun _=>True) fuel listed a w):NAt P l Q S N fuel listed a w:=by
 simp only [WG,Bool.and_eq_true,decide_eq_true_eq] at hc
 intro inv
 refine yS fuel listed a w (fun j hj=>List.all_eq_true.1 hc.2 j (List.mem_range.2 hj)) (h ⟨inv.size,inv.closed,fun t ht ht'=>inv.tail t (by omega) ht'⟩)
theorem UK {id:Nat} {a:Act} {w:World} (N:Nat) (S:World→Prop) (hm:P.follows .mixedOrders=true) (hS:S w.drew) (h:S w.drew→NAt P l Q S N l.length (Array.replicate l.length false) a w.drew):(Code.region id l.toArray true).wp P Q a w:=by
 refine wp_region_any hm (Bz (S:=S) (N:=N) _ _ _ _ ?_)
 have:=h hS ⟨by simp,fun j oj _ hl=>(by rw [getD_replicate_false] at hl;cases hl),fun t _ ht=>getD_in (by simpa using ht) (getD_replicate_false _ _)⟩
 simpa using this
end
section
variable {P:Program} {Q:Exit→Act→World→Prop} {S:World→Prop} {l:List Oper}
def ZZ (l:List Oper) (i j:Nat) (listed:Array Bool):Bool:=decide (Region.ready .any l.toArray listed=[i,j]) && decide (i+1 < l.toArray.size) && decide (j+1 < l.toArray.size)
theorem IG {i j:Nat} {oi oj:Oper} {fuel:Nat} {listed:Array Bool} {a:Act} {w:World} (hi:l[i]?=some oi) (hj:l[j]?=some oj) (hc:ZZ l i j listed=true)
  (h1:∀ K':Act→World→Prop,Shut (∀ a w,S w→(S w→TP P l Q S fuel (listed.setIfInBounds i true) a w)→K' a w)→if Region.wanted oi (yielded l.toArray a.tmps)=true then Oper.wp P oi a w K' Q else K' (a.put oi.dst undef) w)
  (h2:∀ K':Act→World→Prop,Shut (∀ a w,S w→(S w→TP P l Q S fuel (listed.setIfInBounds j true) a w)→K' a w)→if Region.wanted oj (yielded l.toArray a.tmps)=true then Oper.wp P oj a w K' Q else K' (a.put oj.dst undef) w):TP P l Q S (fuel+1) listed a w:=by
 simp only [ZZ,Bool.and_eq_true,decide_eq_true_eq] at hc
 obtain⟨⟨hc1,hc2⟩,hc3⟩:=hc
 have hi':l.toArray[i]?=some oi:=by simpa using hi
 have hj':l.toArray[j]?=some oj:=by simpa using hj
 intro inv
 refine⟨fun h0=>(by rw [h0] at hc1;cases hc1),fun k hk=>?_⟩
 have hr:=hk
 rw [hc1] at hk
 simp only [List.mem_cons,List.not_mem_nil,or_false] at hk
 rcases hk with rfl | rfl
 ·have:=h1 (fun a' w'=>(k+1 < l.toArray.size→S w')∧ou P .any l.toArray Q S fuel (listed.setIfInBounds k true) a' w') (fun a w hS hn=>⟨fun _=>hS,hn hS (inv.set hr (by omega))⟩)
  unfold wpOp
  simp only [hi']
  by_cases hwd:Region.wanted oi (yielded l.toArray a.tmps)=true
  ·rw [if_pos hwd] at this ⊢;exact Or.inl this
  ·rw [if_neg hwd] at this ⊢;exact this
 ·have:=h2 (fun a' w'=>(k+1 < l.toArray.size→S w')∧ou P .any l.toArray Q S fuel (listed.setIfInBounds k true) a' w') (fun a w hS hn=>⟨fun _=>hS,hn hS (inv.set hr (by omega))⟩)
  unfold wpOp
  simp only [hj']
  by_cases hwd:Region.wanted oj (yielded l.toArray a.tmps)=true
  ·rw [if_pos hwd] at this ⊢;exact Or.inl this
  ·rw [if_neg hwd] at this ⊢;exact this
end
section
variable {F0:List Nat} {w0 w:World} {R:List ax} {br:Nat} {s:pq}
def Fq (r:Fl×Bool×pq) (br:Nat) (F0:List Nat) (w0:World) (R:List ax) (e:Ending) (w':World):Prop:=e=.returned (.tuple #[.agg (dQ r.1),.bool r.2.1])∧In F0 w0 w' (iY br r.2.2::R)
theorem KY {y:Fl} {b0 b8:Nat} {C:Array Value} {Q:List ax} (h:In F0 w0 w (iY br s::Cells b8 (dQ y) 49::Cells b0 C 49::Q)) (hC:C.size=8) :
  (w.heap[b8]?=some (.cells (dQ y) 49 (0,0))∧w.there b0 0 8)∧((w.setCells b0 0 (dQ y).toList).heap[b0]?=some (.cells (dQ y) 49 (0,0))∧In F0 w0 (w.setCells b0 0 (dQ y).toList) (iY br s::Q)):=by
 have h2:=h.eX 2 rfl (xs:=(dQ y).toList) (b:=b0) (C:=C) (T:=49) (by rw [hC];rfl)
 have ht:=dX (h.block 2 rfl)
 rw [hC] at ht
 exact⟨⟨h.block 1 rfl,ht⟩,h2.block 2 rfl,h2.aL (R1:=[_,_,_]) [0] (by decide) rfl⟩
structure UL (w:World) (b8 b0:Nat) (y:Fl):Prop where
 y0:w.cell? ⟨b8,0,none⟩=some (.int .u32 y.t.src)
 y1:w.cell? ⟨b8,1,none⟩=some (.int .u32 y.t.dst)
 y2:w.cell? ⟨b8,2,none⟩=some (.int .i64 y.t.proto)
 y3:w.cell? ⟨b8,3,none⟩=some (.int .i64 y.t.ag)
 y4:w.cell? ⟨b8,4,none⟩=some (.int .i64 y.t.ah)
 y5:w.cell? ⟨b8,5,none⟩=some (.int .i64 y.bk)
 y6:w.cell? ⟨b8,6,none⟩=some (.int .i64 y.gen)
 y7:w.cell? ⟨b8,7,none⟩=some (.int .i64 y.seen)
 z0:w.cell? ⟨b0,0,none⟩=some (.int .u32 0)
 z1:w.cell? ⟨b0,1,none⟩=some (.int .u32 0)
 z2:w.cell? ⟨b0,2,none⟩=some (.int .i64 0)
 z3:w.cell? ⟨b0,3,none⟩=some (.int .i64 0)
 z4:w.cell? ⟨b0,4,none⟩=some (.int .i64 0)
 z5:w.cell? ⟨b0,5,none⟩=some (.int .i64 0)
 z6:w.cell? ⟨b0,6,none⟩=some (.int .i64 0)
 z7:w.cell? ⟨b0,7,none⟩=some (.int .i64 0)
 fz:∀ j,w.frozen? ⟨b0,j,none⟩=false
theorem xc {y:Fl} {b0 b8:Nat} {Q:List ax} (h:In F0 w0 w (iY br s::Cells b8 (dQ y) 49::Cells b0 (dQ aQ) 49::Q)):UL w b8 b0 y:=
 ⟨cell_of (h.block 1 rfl) rfl,cell_of (h.block 1 rfl) rfl,cell_of (h.block 1 rfl) rfl,cell_of (h.block 1 rfl) rfl,cell_of (h.block 1 rfl) rfl,cell_of (h.block 1 rfl) rfl,cell_of (h.block 1 rfl) rfl,cell_of (h.block 1 rfl) rfl,cell_of (h.block 2 rfl) rfl,cell_of (h.block 2 rfl) rfl,cell_of (h.block 2 rfl) rfl,cell_of (h.block 2 rfl) rfl,cell_of (h.block 2 rfl) rfl,cell_of (h.block 2 rfl) rfl,cell_of (h.block 2 rfl) rfl,cell_of (h.block 2 rfl) rfl,fun j=>aK (h.block 2 rfl)⟩
theorem XT (v:Int) (h:In F0 w0 w (iY br s::R)):Calls Tryz.prog 258 #[pR br,.int .i64 v] w (Fq (wu v s) br F0 w0 R):=by
 have h1:In F0 w0 (w.alloc (.cells (dQ aQ) 49)) (iY br s::Cells w.heap.size (dQ aQ) 49::R):=(h.cells (dQ aQ) 49).aL (R1:=[_,_]) [1,0] (by decide) rfl
 have KT:=Lib.hid (ME h1)
 obtain⟨⟨t,ok,s1⟩,ht⟩:∃ x,x=jV s:=⟨_,rfl⟩
 rw [← ht] at KT
 obtain⟨s2,hs2⟩:∃ x,x=gK 2 s1:=⟨_,rfl⟩
 obtain⟨s3,hs3⟩:∃ x,x=gK 4 s2:=⟨_,rfl⟩
 obtain⟨a1,ha1⟩:∃ x:Int,x=kR 2 s1:=⟨_,rfl⟩
 obtain⟨a2,ha2⟩:∃ x:Int,x=kR 4 s2:=⟨_,rfl⟩
 have abP:IntKind.i64.wrap a2=a2:=by
  have:kR 4 s2 < 4294967296:=gJ (k:=4) (fE _ _ _)
  rw [IntWalk.i64_in _ (by omega)]
 have JA:Hid (∀ w' R',In F0 w0 w' (iY br s1::R')→Calls Tryz.prog 219 #[pR br] w' (jA (.int .i64 a1) br s2 F0 w0 R')):=Lib.hid fun w' R' h'=>by rw [ha1,hs2];exact Dv h'
 have Uz:Hid (∀ w' R',In F0 w0 w' (iY br s2::R')→Calls Tryz.prog 218 #[pR br] w' (jA (.int .u32 a2) br s3 F0 w0 R')):=Lib.hid fun w' R' h'=>by rw [ha2,hs3];exact Dw h'
 obtain⟨s4,hs4⟩:∃ x,x=(if 2≤v then s3 else s2):=⟨_,rfl⟩
 obtain⟨a3,Px⟩:∃ x:Int,x=rT (kR 8 s4):=⟨_,rfl⟩
 obtain⟨s5,hs5⟩:∃ x,x=gK 8 s4:=⟨_,rfl⟩
 have UA:Hid (∀ w' R',In F0 w0 w' (iY br s4::R')→Calls Tryz.prog 261 #[pR br] w' (jA (.int .i64 a3) br s5 F0 w0 R')):=Lib.hid fun w' R' h'=>by rw [Px,hs5];exact Wx h'
 obtain⟨gN,hgN⟩:∃ x:Int,x=if 2≤v then a2 else 0:=⟨_,rfl⟩
 obtain⟨sN,hsN⟩:∃ x:Int,x=if 3≤v then a3 else 0:=⟨_,rfl⟩
 obtain⟨sE,hsE⟩:∃ x,x=if 3≤v then s5 else s4:=⟨_,rfl⟩
 have e:wu v s=(⟨t,a1,gN,sN⟩,ok,sE):=by
  rw [hgN,hsN,hsE]
  unfold wu
  simp only [← ht,← hs2,← hs3,← hs4,← ha1,← ha2,← Px,← hs5]
 rw [e]
 have HGN:=Lib.hid hgN
 have PD:=Lib.hid hsN
 have Co:=Lib.hid hsE
 have HS4:=Lib.hid hs4
 clear e h h1 ht hs2 hs3 ha1 ha2 Px hs5 hgN hsN hsE hs4
 obtain⟨src,dst,proto,ag,ah⟩:=t
 go_enter Tryz.func258,Tryz.ntmps258
 go_wp2_with fail
 refine KT.out.mono ?_
 rintro e w1 ⟨rfl,g1⟩
 simp only at g1
 have g2:=(g1.cells (dE ⟨src,dst,proto,ag,ah⟩) 47).aL (R1:=[_,_,_]) [1,2,0] (by decide) rfl
 have WI:=(g2.cells (dQ aQ) 49).aL (R1:=[_,_,_,_]) [1,0,2,3] (by decide) rfl
 simp only [World.size_alloc] at WI
 have G2:Hid (Calls Tryz.prog 219 #[pR br] (w1.alloc (.cells #[.int .u32 src,.int .u32 dst,.int .i64 proto,.int .i64 ag,.int .i64 ah] 47)).drew (jA (.int .i64 a1) br s2 F0 w0 (Cells w.heap.size (dQ aQ) 49::Cells w1.heap.size (dE ⟨src,dst,proto,ag,ah⟩) 47::R))):=Lib.hid (JA.out _ _ (g2.drewN 1))
 have G2A:Hid (Calls Tryz.prog 219 #[pR br] ((w1.alloc (.cells #[.int .u32 src,.int .u32 dst,.int .i64 proto,.int .i64 ag,.int .i64 ah] 47)).alloc (.cells #[.int .u32 0,.int .u32 0,.int .i64 0,.int .i64 0,.int .i64 0,.int .i64 0,.int .i64 0,.int .i64 0] 49)).drew (jA (.int .i64 a1) br s2 F0 w0 (Cells (w1.heap.size+1) (dQ aQ) 49::Cells w.heap.size (dQ aQ) 49::Cells w1.heap.size (dE ⟨src,dst,proto,ag,ah⟩) 47::R))):=Lib.hid (JA.out _ _ (WI.drewN 1))
 have HY:=Lib.hid (fun w' (h':In F0 w0 w' (iY br s2::Cells w.heap.size (dQ aQ) 49::Cells w1.heap.size (dE ⟨src,dst,proto,ag,ah⟩) 47::R))=>(show w'.cell? ⟨w1.heap.size,0,none⟩=some (.int .u32 src)∧w'.cell? ⟨w1.heap.size,1,none⟩=some (.int .u32 dst)∧w'.cell? ⟨w1.heap.size,2,none⟩=some (.int .i64 proto)∧w'.cell? ⟨w1.heap.size,3,none⟩=some (.int .i64 ag)∧w'.cell? ⟨w1.heap.size,4,none⟩=some (.int .i64 ah) from ⟨cell_of (h'.block 2 rfl) rfl,cell_of (h'.block 2 rfl) rfl,cell_of (h'.block 2 rfl) rfl,cell_of (h'.block 2 rfl) rfl,cell_of (h'.block 2 rfl) rfl⟩))
 have HYA:=Lib.hid (fun w' (h':In F0 w0 w' (iY br s2::Cells (w1.heap.size+1) (dQ aQ) 49::Cells w.heap.size (dQ aQ) 49::Cells w1.heap.size (dE ⟨src,dst,proto,ag,ah⟩) 47::R))=>And.intro (show w'.cell? ⟨w1.heap.size,0,none⟩=some (.int .u32 src)∧w'.cell? ⟨w1.heap.size,1,none⟩=some (.int .u32 dst)∧w'.cell? ⟨w1.heap.size,2,none⟩=some (.int .i64 proto)∧w'.cell? ⟨w1.heap.size,3,none⟩=some (.int .i64 ag)∧w'.cell? ⟨w1.heap.size,4,none⟩=some (.int .i64 ah) from ⟨cell_of (h'.block 3 rfl) rfl,cell_of (h'.block 3 rfl) rfl,cell_of (h'.block 3 rfl) rfl,cell_of (h'.block 3 rfl) rfl,cell_of (h'.block 3 rfl) rfl⟩) (xc (y:=aQ) (b0:=w1.heap.size+1) (b8:=w.heap.size) (h'.aL (R1:=[_,_,_]) [0,2,1] (by decide) rfl)))
 have UM:Hid ((w1.alloc (.cells (dE ⟨src,dst,proto,ag,ah⟩) 47)).cell? ⟨w1.heap.size,0,none⟩=some (.int .u32 src)∧(w1.alloc (.cells (dE ⟨src,dst,proto,ag,ah⟩) 47)).cell? ⟨w1.heap.size,1,none⟩=some (.int .u32 dst)∧(w1.alloc (.cells (dE ⟨src,dst,proto,ag,ah⟩) 47)).cell? ⟨w1.heap.size,2,none⟩=some (.int .i64 proto)∧(w1.alloc (.cells (dE ⟨src,dst,proto,ag,ah⟩) 47)).cell? ⟨w1.heap.size,3,none⟩=some (.int .i64 ag)∧(w1.alloc (.cells (dE ⟨src,dst,proto,ag,ah⟩) 47)).cell? ⟨w1.heap.size,4,none⟩=some (.int .i64 ah)):=Lib.hid ⟨cell_of (g2.block 2 rfl) rfl,cell_of (g2.block 2 rfl) rfl,cell_of (g2.block 2 rfl) rfl,cell_of (g2.block 2 rfl) rfl,cell_of (g2.block 2 rfl) rfl⟩
 have UN:Hid (((w1.alloc (.cells (dE ⟨src,dst,proto,ag,ah⟩) 47)).alloc (.cells (dQ aQ) 49)).cell? ⟨w1.heap.size,0,none⟩=some (.int .u32 src)∧((w1.alloc (.cells (dE ⟨src,dst,proto,ag,ah⟩) 47)).alloc (.cells (dQ aQ) 49)).cell? ⟨w1.heap.size,1,none⟩=some (.int .u32 dst)∧((w1.alloc (.cells (dE ⟨src,dst,proto,ag,ah⟩) 47)).alloc (.cells (dQ aQ) 49)).cell? ⟨w1.heap.size,2,none⟩=some (.int .i64 proto)∧((w1.alloc (.cells (dE ⟨src,dst,proto,ag,ah⟩) 47)).alloc (.cells (dQ aQ) 49)).cell? ⟨w1.heap.size,3,none⟩=some (.int .i64 ag)∧((w1.alloc (.cells (dE ⟨src,dst,proto,ag,ah⟩) 47)).alloc (.cells (dQ aQ) 49)).cell? ⟨w1.heap.size,4,none⟩=some (.int .i64 ah)):=Lib.hid ⟨cell_of (WI.block 3 rfl) rfl,cell_of (WI.block 3 rfl) rfl,cell_of (WI.block 3 rfl) rfl,cell_of (WI.block 3 rfl) rfl,cell_of (WI.block 3 rfl) rfl⟩
 clear g1 g2 WI KT
 have hne1:¬ w1.heap.size+1=w1.heap.size:=by omega
 have hne2:¬ w1.heap.size=w1.heap.size+1:=by omega
 go_upto_region 2 with fail
 go_cut [8] (fun x8 wx=>∃ b8,x8=.pointer (some ⟨b8,0,none⟩)∧In F0 w0 wx (iY br s2::Cells b8 (dQ ⟨⟨src,dst,proto,ag,ah⟩,a1,0,0⟩) 49::Cells w.heap.size (dQ aQ) 49::R))
 case first=>
  refine rG (fun w'=>w'.cell? ⟨w1.heap.size,0,none⟩=some (.int .u32 src)∧w'.cell? ⟨w1.heap.size,1,none⟩=some (.int .u32 dst)∧w'.cell? ⟨w1.heap.size,2,none⟩=some (.int .i64 proto)∧w'.cell? ⟨w1.heap.size,3,none⟩=some (.int .i64 ag)∧w'.cell? ⟨w1.heap.size,4,none⟩=some (.int .i64 ah)) (by kernel_rfl) UM.out (fun hS=>?_)
  refine bC (i:=0) (v:=?_) rfl (by kernel_rfl) (fun _ _ _ h=>h) (by rfl) ?_ hS ?_
  rotate_left
  ·(intro w hSw;(try dsimp only at hSw);go_simp;try with_reducible rfl)
  try simp only [Act.put,List.setIfInBounds_toArray,List.set_cons_zero,List.set_cons_succ]
  refine bC (i:=1) (v:=?_) rfl (by kernel_rfl) (fun _ _ _ h=>h) (by rfl) ?_ hS ?_
  rotate_left
  ·(intro w hSw;(try dsimp only at hSw);go_simp;try with_reducible rfl)
  try simp only [Act.put,List.setIfInBounds_toArray,List.set_cons_zero,List.set_cons_succ]
  refine IG (i:=2) (j:=4) rfl rfl (by kernel_rfl) (fun K' hK=>?_) (fun K' hK=>?_)
  ·go_simp
   go_at_call 219
   refine G2.out.mono ?_
   rintro e w2 ⟨rfl,g3⟩
   have hz:=HY.out w2 g3
   have G3:=Lib.hid g3
   clear g3 hS
   refine hK.out _ _ hz (fun hS=>?_)
   clear hK K'
   try simp only [Act.put,List.setIfInBounds_toArray,List.set_cons_zero,List.set_cons_succ]
   refine bC (i:=3) (v:=?_) rfl (by kernel_rfl) (fun _ _ _ h=>h) (by rfl) ?_ hS ?_
   rotate_left
   ·(intro w hSw;(try dsimp only at hSw);go_simp;try with_reducible rfl)
   try simp only [Act.put,List.setIfInBounds_toArray,List.set_cons_zero,List.set_cons_succ]
   have g8:=(G3.out.cells (dQ ⟨⟨src,dst,proto,ag,ah⟩,a1,0,0⟩) 49).aL (R1:=[_,_,_,_]) [1,0,2,3] (by decide) rfl
   have G8:=Lib.hid g8
   refine kC (i:=4) rfl (by kernel_rfl) (fun K' hK=>?_)
   go_simp
   refine hK.out _ _ (by have h9:=(G3.out.cells #[.int .u32 0,.int .u32 0,.int .i64 0,.int .i64 0,.int .i64 0,.int .i64 0,.int .i64 0,.int .i64 0] 49);exact⟨cell_of (h9.block 3 rfl) rfl,cell_of (h9.block 3 rfl) rfl,cell_of (h9.block 3 rfl) rfl,cell_of (h9.block 3 rfl) rfl,cell_of (h9.block 3 rfl) rfl⟩) (fun hS=>?_)
   clear hK K'
   try simp only [Act.put,List.setIfInBounds_toArray,List.set_cons_zero,List.set_cons_succ]
   refine mF (i:=5) rfl (by kernel_rfl) (fun K' hK=>?_)
   go_simp
   refine hK.out _ _ ?_
   clear hK K'
   go_wp2_with fail
   go_meet
   exact⟨_,rfl,G8.out.aL (R1:=[_,_,_,_]) [0,1,2] (by decide) rfl⟩
  ·go_simp
   clear hS
   refine hK.out _ _ UN.out (fun hS=>?_)
   clear hK K'
   try simp only [Act.put,List.setIfInBounds_toArray,List.set_cons_zero,List.set_cons_succ]
   refine kC (i:=2) rfl (by kernel_rfl) (fun K' hK=>?_)
   go_simp
   go_at_call 219
   refine G2A.out.mono ?_
   rintro e w2 ⟨rfl,g3⟩
   obtain⟨hz,fc⟩:=HYA.out w2 g3
   have ht:=dX (g3.block 1 rfl)
   have g8:=g3.eX 1 rfl (xs:=(dQ ⟨⟨src,dst,proto,ag,ah⟩,a1,0,0⟩).toList) (b:=w1.heap.size+1) (C:=dQ aQ) (T:=49) rfl
   have G8:=Lib.hid g8
   clear g3 g8 fc hS
   refine hK.out _ _ hz (fun hS=>?_)
   clear hK K'
   try simp only [Act.put,List.setIfInBounds_toArray,List.set_cons_zero,List.set_cons_succ]
   refine bC (i:=3) (v:=?_) rfl (by kernel_rfl) (fun _ _ _ h=>h) (by rfl) ?_ hS ?_
   rotate_left
   ·(intro w hSw;(try dsimp only at hSw);go_simp;try with_reducible rfl)
   try simp only [Act.put,List.setIfInBounds_toArray,List.set_cons_zero,List.set_cons_succ]
   refine mF (i:=5) rfl (by kernel_rfl) (fun K' hK=>?_)
   rw [if_pos (by rfl)]
   refine wp_store_mid 49 (.tmp 8) (.tmp 17) rfl (w1.heap.size+1) 0 (dQ ⟨⟨src,dst,proto,ag,ah⟩,a1,0,0⟩) (by rfl) (by rfl) ht (by kernel_rfl) (QR _) ?_
   refine hK.out _ _ ?_
   clear hK K'
   go_wp2_with fail
   go_meet
   exact⟨_,rfl,G8.out.aL (R1:=[_,_,_,_]) [0,1,2] (by decide) rfl⟩
 case rest=>
  obtain⟨b8,rfl,dh⟩:=hcut
  by_cases v2:2≤v
  ·have EG:gN=a2:=by rw [HGN.out,if_pos v2]
   have E4:s4=s3:=by rw [HS4.out,if_pos v2]
   have K2:=Lib.hid (Uz.out wc _ dh)
   by_cases v3:3≤v
   ·have ES:sN=a3:=by rw [PD.out,if_pos v3]
    have EE:sE=s5:=by rw [Co.out,if_pos v3]
    have HF:Hid (∀ w',In F0 w0 w' (iY br s5::R)→Fq (⟨⟨src,dst,proto,ag,ah⟩,a1,gN,sN⟩,ok,sE) br F0 w0 R (.returned (.tuple #[.agg (dQ ⟨⟨src,dst,proto,ag,ah⟩,a1,a2,a3⟩),.bool ok])) w'):=Lib.hid fun w' h'=>by
     rw [EG,ES,EE]
     exact⟨rfl,h'⟩
    have aaa:Hid (∀ w' R',In F0 w0 w' (iY br s3::R')→Calls Tryz.prog 261 #[pR br] w' (jA (.int .i64 a3) br s5 F0 w0 R')):=Lib.hid fun w' R' h'=>UA.out w' R' (by rw [E4];exact h')
    clear EG ES EE E4 HGN PD Co HS4 JA Uz UA dh G2 G2A HY HYA UM UN hne1 hne2
    go_wp2_with fail
    refine K2.out.mono ?_
    rintro e w3 ⟨rfl,g3⟩
    have f6:w3.frozen? ⟨b8,6,none⟩=false:=aK (g3.block 1 rfl)
    have d6:w3.cell? ⟨b8,6,none⟩=some (.int .i64 0):=cell_of (g3.block 1 rfl) rfl
    have g4:In F0 w0 (w3.setCell ⟨b8,6,none⟩ (.int .i64 a2)) (iY br s3::Cells b8 (dQ ⟨⟨src,dst,proto,ag,ah⟩,a1,a2,0⟩) 49::Cells w.heap.size (dQ aQ) 49::R):=by
     have h9:=In.ku [.int .i64 a2] 6 1 g3 (b:=b8) (C:=dQ ⟨⟨src,dst,proto,ag,ah⟩,a1,0,0⟩) (T:=49) rfl
     rw [jc (ys:=(dQ ⟨⟨src,dst,proto,ag,ah⟩,a1,a2,0⟩).toList) (by simp) (by simp)] at h9
     exact h9
    have K3:=Lib.hid (aaa.out _ _ g4)
    clear g3 g4 K2 aaa
    go_wp2_with fail
    refine K3.out.mono ?_
    rintro e w4 ⟨rfl,g5⟩
    clear f6 d6
    have f7:w4.frozen? ⟨b8,7,none⟩=false:=aK (g5.block 1 rfl)
    have d7:w4.cell? ⟨b8,7,none⟩=some (.int .i64 0):=cell_of (g5.block 1 rfl) rfl
    have g6:In F0 w0 (w4.setCell ⟨b8,7,none⟩ (.int .i64 a3)) (iY br s5::Cells b8 (dQ ⟨⟨src,dst,proto,ag,ah⟩,a1,a2,a3⟩) 49::Cells w.heap.size (dQ aQ) 49::R):=by
     have h9:=In.ku [.int .i64 a3] 7 1 g5 (b:=b8) (C:=dQ ⟨⟨src,dst,proto,ag,ah⟩,a1,a2,0⟩) (T:=49) rfl
     rw [jc (ys:=(dQ ⟨⟨src,dst,proto,ag,ah⟩,a1,a2,a3⟩).toList) (by simp) (by simp)] at h9
     exact h9
    clear g5 K3
    obtain⟨y0,y1,y2,y3,y4,y5,y6,y7,z0,z1,z2,z3,z4,z5,z6,z7,kf⟩:=xc g6
    simp only at y0 y1 y2 y3 y4 y5 y6 y7
    obtain⟨-,q3,q4⟩:=KY g6 rfl
    have Q3:=Lib.hid q3
    have Q4:=Lib.hid (HF.out _ q4)
    clear g6 q3 q4 HF
    go_wp2_with fail
    exact bodyPost_ret (aP Tryz.results258 _ _ w.heap.size 49 _ (0,0) _ rfl Q3.out Tryz.underlying49 rfl (by kernel_rfl)) rfl Q4.out
   ·have q3v:decide (3≤v)=false:=decide_eq_false v3
    have ES:sN=0:=by rw [PD.out,if_neg v3]
    have EE:sE=s3:=by rw [Co.out,if_neg v3,E4]
    have HF:Hid (∀ w',In F0 w0 w' (iY br s3::R)→Fq (⟨⟨src,dst,proto,ag,ah⟩,a1,gN,sN⟩,ok,sE) br F0 w0 R (.returned (.tuple #[.agg (dQ ⟨⟨src,dst,proto,ag,ah⟩,a1,a2,0⟩),.bool ok])) w'):=Lib.hid fun w' h'=>by
     rw [EG,ES,EE]
     exact⟨rfl,h'⟩
    clear EG ES EE E4 HGN PD Co HS4 JA Uz UA dh G2 G2A HY HYA UM UN hne1 hne2 v3
    go_wp2_with fail
    refine K2.out.mono ?_
    rintro e w3 ⟨rfl,g3⟩
    have f6:w3.frozen? ⟨b8,6,none⟩=false:=aK (g3.block 1 rfl)
    have d6:w3.cell? ⟨b8,6,none⟩=some (.int .i64 0):=cell_of (g3.block 1 rfl) rfl
    have g4:In F0 w0 (w3.setCell ⟨b8,6,none⟩ (.int .i64 a2)) (iY br s3::Cells b8 (dQ ⟨⟨src,dst,proto,ag,ah⟩,a1,a2,0⟩) 49::Cells w.heap.size (dQ aQ) 49::R):=by
     have h9:=In.ku [.int .i64 a2] 6 1 g3 (b:=b8) (C:=dQ ⟨⟨src,dst,proto,ag,ah⟩,a1,0,0⟩) (T:=49) rfl
     rw [jc (ys:=(dQ ⟨⟨src,dst,proto,ag,ah⟩,a1,a2,0⟩).toList) (by simp) (by simp)] at h9
     exact h9
    clear g3 K2
    obtain⟨y0,y1,y2,y3,y4,y5,y6,y7,z0,z1,z2,z3,z4,z5,z6,z7,kf⟩:=xc g4
    simp only at y0 y1 y2 y3 y4 y5 y6 y7
    obtain⟨-,q3,q4⟩:=KY g4 rfl
    have Q3:=Lib.hid q3
    have Q4:=Lib.hid (HF.out _ q4)
    clear g4 q3 q4 HF
    go_wp2_with fail
    exact bodyPost_ret (aP Tryz.results258 _ _ w.heap.size 49 _ (0,0) _ rfl Q3.out Tryz.underlying49 rfl (by kernel_rfl)) rfl Q4.out
  ·have q2v:decide (2≤v)=false:=decide_eq_false v2
   have q3v:decide (3≤v)=false:=decide_eq_false (by omega)
   have EG:gN=0:=by rw [HGN.out,if_neg v2]
   have E4:s4=s2:=by rw [HS4.out,if_neg v2]
   have ES:sN=0:=by rw [PD.out,if_neg (by omega)]
   have EE:sE=s2:=by rw [Co.out,if_neg (by omega),E4]
   have HF:Hid (∀ w',In F0 w0 w' (iY br s2::R)→Fq (⟨⟨src,dst,proto,ag,ah⟩,a1,gN,sN⟩,ok,sE) br F0 w0 R (.returned (.tuple #[.agg (dQ ⟨⟨src,dst,proto,ag,ah⟩,a1,0,0⟩),.bool ok])) w'):=Lib.hid fun w' h'=>by
    rw [EG,ES,EE]
    exact⟨rfl,h'⟩
   clear EG ES EE E4 HGN PD Co HS4 JA Uz UA G2 G2A HY HYA UM UN hne1 hne2 v2
   obtain⟨y0,y1,y2,y3,y4,y5,y6,y7,z0,z1,z2,z3,z4,z5,z6,z7,kf⟩:=xc dh
   simp only at y0 y1 y2 y3 y4 y5 y6 y7
   obtain⟨-,q3,q4⟩:=KY dh rfl
   have Q3:=Lib.hid q3
   have Q4:=Lib.hid (HF.out _ q4)
   clear dh q3 q4 HF
   go_wp2_with fail
   exact bodyPost_ret (aP Tryz.results258 _ _ w.heap.size 49 _ (0,0) _ rfl Q3.out Tryz.underlying49 rfl (by kernel_rfl)) rfl Q4.out
end
theorem aab {k:Nat} (h:k≤1000000000):wrap64 ((k:Int)+1)=(k:Int)+1:=by unfold wrap64;omega
section
variable {F0:List Nat} {w0 w:World} {R:List ax} {br:Nat} {s:pq}
def Rp (v:Int) (n:Nat) (s:pq) (br:Nat) (F0:List Nat) (w0:World) (R:List ax) (pv i:Value) (wr:World):Prop:=
 ∃ k:Nat,k≤n∧i=.int .i64 k∧In F0 w0 wr (iY br (rdBks v k s).2::gq pv (rdBks v k s).1::R)
def KZ (v:Int) (n:Nat) (s:pq) (br:Nat) (F0:List Nat) (w0:World) (R:List ax) (e:Ending) (w':World):Prop:=
 ∃ pv,e=.returned pv∧In F0 w0 w' (iY br (rdBks v n s).2::gq pv (rdBks v n s).1::R)
theorem xe (v:Int) (s:pq):∀ k,(rdBks v k s).1.length=k
 | 0=>rfl
 | k+1=>by show ((rdBks v k s).1++[_]).length=_;rw [List.length_append,xe v s k];rfl
theorem MJ {v:Int} {n k nb mb:Nat} {pv:Value} {C C2:Array Value} {ty JB:Nat} {s1:pq} {l:List Bk} {b:Bk} {s2:pq} (hk:k < n) (hl:rdBks v k s=(l,s1)) (hb:wy v s1=(b,s2))
  (h:In F0 w0 w (Cells nb C ty::iY br s2::Cells mb C2 JB::ay 103 3 pv (l.length+1) (pQ l++lD b)::R)):Rp v n s br F0 w0 R pv (.int .i64 ((k:Int)+1)) w:=by
 have e:rdBks v (k+1) s=(l++[b],s2):=by
  show ((rdBks v k s).1++[(wy v (rdBks v k s).2).1],(wy v (rdBks v k s).2).2)=_
  rw [hl,hb]
 refine⟨k+1,hk,by rw [Int.natCast_add];rfl,?_⟩
 rw [e]
 unfold gq
 rw [PZ,List.length_append]
 exact h.aL (R1:=[_,_,_,_]) [1,3] (by decide) rfl
theorem UO (v:Int) (h:In F0 w0 w (iY br s::R)):Calls Tryz.prog 260 #[pR br,.int .i64 v] w (KZ v (min (kR 1 s) 17) (gK 1 s) br F0 w0 R):=by
 obtain⟨m,hm⟩:∃ m,m=kR 1 s:=⟨_,rfl⟩
 obtain⟨s0,hs0⟩:∃ x,x=gK 1 s:=⟨_,rfl⟩
 have K1:=XF h
 rw [← hm,← hs0] at K1 ⊢
 have JA:=Lib.hid K1
 obtain⟨n,hn⟩:∃ n,n=min m 17:=⟨_,rfl⟩
 have aaW:n≤17:=by omega
 have hmin:min (m:Int) 17=(n:Int):=by omega
 rw [← hn]
 clear h K1 hm hs0 hn
 have aac:=Lib.hid aaW
 go_enter Tryz.func260,Tryz.ntmps260
 go_wp2_with fail
 refine JA.out.mono ?_
 rintro e w1 ⟨rfl,g1⟩
 have HR:Hid (Rp v n s0 br F0 w0 R (.slice none 0 0) (.int .i64 0) w1):=Lib.hid ⟨0,Nat.zero_le _,rfl,(g1.dz 103 3).aL (R1:=[_,_]) [1,0] (by decide) rfl⟩
 clear g1 JA
 go_wp2_with fail
 go_loopw [5,10] (Rp v n s0 br F0 w0 R) (fun _ k _=>n - (intOf k).toNat)
 case atStart=>exact HR.out
 case round=>
  obtain⟨k,hk,rfl,dh⟩:=hrel
  clear HR
  by_cases hlt:k < n
  ·obtain⟨⟨l,s1⟩,hl⟩:∃ x,x=rdBks v k s0:=⟨_,rfl⟩
   rw [← hl] at dh
   simp only at dh
   have hll:l.length=k:=by have:=xe v s0 k;rw [← hl] at this;exact this
   obtain⟨s2,hs2⟩:∃ x,x=gK 2 s1:=⟨_,rfl⟩
   obtain⟨s3,hs3⟩:∃ x,x=gK 4 s2:=⟨_,rfl⟩
   obtain⟨s4,hs4⟩:∃ x,x=gK 1 s3:=⟨_,rfl⟩
   obtain⟨a1,ha1⟩:∃ x:Int,x=kR 2 s1:=⟨_,rfl⟩
   obtain⟨a2,ha2⟩:∃ x:Int,x=kR 4 s2:=⟨_,rfl⟩
   obtain⟨a3,Px⟩:∃ x:Int,x=kR 1 s3:=⟨_,rfl⟩
   have hlt':(k:Int) < (n:Int):=Int.ofNat_lt.2 hlt
   have hw2:wrap64 ((k:Int)+1)=(k:Int)+1:=aab (Nat.le_trans (Nat.le_of_lt hlt) (Nat.le_trans aac.out (by decide)))
   obtain⟨Fv,rv⟩:=dh.get 1 rfl
   obtain⟨pa,pc,rfl,-,-,-⟩:=ay.shape rv
   have KA:Hid (Calls Tryz.prog 219 #[pR br] wr (jA (.int .i64 a1) br s2 F0 w0 (gq (.slice pa l.length pc) l::R))):=Lib.hid (by rw [ha1,hs2];exact Dv dh)
   have KB:Hid (∀ w',In F0 w0 w' (iY br s2::gq (.slice pa l.length pc) l::R)→Calls Tryz.prog 218 #[pR br] w' (jA (.int .u32 a2) br s3 F0 w0 (gq (.slice pa l.length pc) l::R))):=Lib.hid fun w' h'=>by rw [ha2,hs3];exact Dw h'
   have KC:Hid (∀ w' R',In F0 w0 w' (iY br s3::R')→Calls Tryz.prog 255 #[pR br] w' (jA (.int .i64 a3) br s4 F0 w0 R')):=Lib.hid fun w' R' h'=>by rw [Px,hs4];exact XF h'
   have HLL:Hid (l.length≤17):=Lib.hid (by rw [hll];exact Nat.le_trans (Nat.le_of_lt hlt) aac.out)
   by_cases v2:2≤v
   ·have hb:wy v s1=(⟨a1,a2,a3⟩,s4):=by unfold wy;rw [if_pos v2,if_pos v2,← hs2,← hs3,← hs4,← ha1,← ha2,← Px]
    have HN:=Lib.hid (fun nb mb C C2 ty JB pv w' h'=>MJ (F0:=F0) (w0:=w0) (w:=w') (R:=R) (br:=br) (s:=s0) (v:=v) (n:=n) (k:=k) (nb:=nb) (mb:=mb) (pv:=pv) (C:=C) (C2:=C2) (ty:=ty) (JB:=JB) hlt hl.symm hb h')
    clear dh hk hlt hl hll hs2 hs3 hs4 ha1 ha2 Px rv hb
    go_wp2_with fail
    refine KA.out.mono ?_
    rintro e w2 ⟨rfl,g2⟩
    have KB2:=Lib.hid (KB.out w2 g2)
    clear g2 KA KB
    go_wp2_with fail
    refine KB2.out.mono ?_
    rintro e w3 ⟨rfl,g3⟩
    have XU:=Lib.hid (KC.out _ _ ((g3.cells #[.int .i64 a1,.int .u32 a2,.int .i64 1] 103).aL (R1:=[_,_,_]) [1,0,2] (by decide) rfl))
    clear g3 KB2 KC
    go_wp2_with fail
    refine XU.out.mono ?_
    rintro e w4 ⟨rfl,g4⟩
    have f2:w4.frozen? ⟨w3.heap.size,2,none⟩=false:=aK (g4.block 1 rfl)
    have d0:w4.cell? ⟨w3.heap.size,0,none⟩=some (.int .i64 a1):=cell_of (g4.block 1 rfl) rfl
    have d1:w4.cell? ⟨w3.heap.size,1,none⟩=some (.int .u32 a2):=cell_of (g4.block 1 rfl) rfl
    have d2:w4.cell? ⟨w3.heap.size,2,none⟩=some (.int .i64 1):=cell_of (g4.block 1 rfl) rfl
    have g5:In F0 w0 (w4.setCell ⟨w3.heap.size,2,none⟩ (.int .i64 a3)) (iY br s4::Cells w3.heap.size #[.int .i64 a1,.int .u32 a2,.int .i64 a3] 103::gq (.slice pa l.length pc) l::R):=by
     have h9:=In.ku [.int .i64 a3] 2 1 g4 (b:=w3.heap.size) (C:=#[.int .i64 a1,.int .u32 a2,.int .i64 1]) (T:=103) rfl
     rw [jc (ys:=[.int .i64 a1,.int .u32 a2,.int .i64 a3]) (by simp) (by simp)] at h9
     exact h9
    have q0:(w4.setCell ⟨w3.heap.size,2,none⟩ (.int .i64 a3)).cell? ⟨w3.heap.size,0,none⟩=some (.int .i64 a1):=cell_of (g5.block 1 rfl) rfl
    have q1:(w4.setCell ⟨w3.heap.size,2,none⟩ (.int .i64 a3)).cell? ⟨w3.heap.size,1,none⟩=some (.int .u32 a2):=cell_of (g5.block 1 rfl) rfl
    have q2:(w4.setCell ⟨w3.heap.size,2,none⟩ (.int .i64 a3)).cell? ⟨w3.heap.size,2,none⟩=some (.int .i64 a3):=cell_of (g5.block 1 rfl) rfl
    have g6:=g5.cells #[.int .i64 a1,.int .u32 a2,.int .i64 a3] 103
    have hsz:(w4.setCell ⟨w3.heap.size,2,none⟩ (.int .i64 a3)).heap.size=w4.heap.size:=by simp
    rw [hsz] at g6
    clear hsz
    have G6:=Lib.hid g6
    have SB:=Lib.hid (Src.of_block (k:=3) (g6.block 0 rfl) rfl)
    clear g4 g5 g6 XU
    go_wp2_with (at_builtin;refine iG rfl G6.out 3 rfl (.tmp 22) (.tmp 24) 22 (by rfl) Tryz.underlying22 Kj (by decide) (by decide) (by rfl) (by rfl) SB.out (fun u hu=>by simp at hu;rcases hu with rfl | rfl | rfl <;> rfl) (Nat.le_trans (Nat.add_le_add_right HLL.out 1) (by decide)) ?_)
    intro v' w5 UQ hg5
    have vH:=Lib.hid (HN.out _ _ _ _ _ _ _ _ (UQ.aL (R1:=[_,_,_,_]) [0,1,2,3] (by decide) rfl))
    clear UQ hg5 G6 SB HN
    go_wp2_with fail
    go_roundw
    case rel=>(try rw [hw2]);exact vH.out
    case measure=>(try rw [hw2]);exact dS hlt'
   ·have hb:wy v s1=(⟨a1,a2,1⟩,s3):=by unfold wy;rw [if_neg v2,if_neg v2,← hs2,← hs3,← ha1,← ha2]
    have q2v:decide (2≤v)=false:=decide_eq_false v2
    have HN:=Lib.hid (fun nb mb C C2 ty JB pv w' h'=>MJ (F0:=F0) (w0:=w0) (w:=w') (R:=R) (br:=br) (s:=s0) (v:=v) (n:=n) (k:=k) (nb:=nb) (mb:=mb) (pv:=pv) (C:=C) (C2:=C2) (ty:=ty) (JB:=JB) hlt hl.symm hb h')
    clear dh hk hlt hl hll hs2 hs3 hs4 ha1 ha2 Px rv hb v2 KC
    go_wp2_with fail
    refine KA.out.mono ?_
    rintro e w2 ⟨rfl,g2⟩
    have KB2:=Lib.hid (KB.out w2 g2)
    clear g2 KA KB
    go_wp2_with fail
    refine KB2.out.mono ?_
    rintro e w3 ⟨rfl,g3⟩
    have g6:=((g3.cells #[.int .i64 a1,.int .u32 a2,.int .i64 1] 103).aL (R1:=[_,_,_]) [1,0,2] (by decide) rfl).cells #[.int .i64 a1,.int .u32 a2,.int .i64 1] 103
    simp only [World.size_alloc] at g6
    have G6:=Lib.hid g6
    have SB:=Lib.hid (Src.of_block (k:=3) (g6.block 0 rfl) rfl)
    clear g3 g6 KB2
    go_wp2_with (at_builtin;refine iG rfl G6.out 3 rfl (.tmp 22) (.tmp 24) 22 (by rfl) Tryz.underlying22 Kj (by decide) (by decide) (by rfl) (by rfl) SB.out (fun u hu=>by simp at hu;rcases hu with rfl | rfl | rfl <;> rfl) (Nat.le_trans (Nat.add_le_add_right HLL.out 1) (by decide)) ?_)
    intro v' w5 UQ hg5
    have vH:=Lib.hid (HN.out _ _ _ _ _ _ _ _ (UQ.aL (R1:=[_,_,_,_]) [0,1,2,3] (by decide) rfl))
    clear UQ hg5 G6 SB HN
    go_wp2_with fail
    go_roundw
    case rel=>(try rw [hw2]);exact vH.out
    case measure=>(try rw [hw2]);exact dS hlt'
  ·have hge:(n:Int)≤(k:Int):=Int.ofNat_le.2 (Nat.le_of_not_lt hlt)
   obtain rfl:k=n:=Nat.le_antisymm hk (Nat.le_of_not_lt hlt)
   have G:=Lib.hid dh
   clear dh hk hlt
   go_wp2_with fail
   go_ret
   exact⟨_,rfl,G.out⟩
end
end Go.Proofs.YtanhdliaaccacaaGreat
