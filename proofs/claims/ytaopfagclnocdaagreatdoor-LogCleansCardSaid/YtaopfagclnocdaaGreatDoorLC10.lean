/- Rows.LogCleansCardSaid -/
import Derived.Test.YtaopfagclnocdaaGreatDoorLC2
import Derived.Test.YtaopfagclnocdaaGreatDoorLC1
import Derived.Maps.RangeWalk
import Derived.Maps.OwnIn
import Derived.RangeFuncStops
namespace Go.Proofs.YtaopfagclnocdaaGreatDoor
open Go.RowKit
open Go.Maps (Keyed)
open Go.RowKit Go.MapKept
open Go.ChangeMaps (setBlock)
set_option linter.unusedVariables false
set_option maxHeartbeats 64000000
set_option maxRecDepth 100000
section
variable {α:Type} {P:Program} {kt:TypeId} {ek ev:α→Value}
def tabR (ek ev:α→Value) (L:List α) (k v:Value):Prop:=∃ x∈L,k=ek x∧v=ev x
def TabA (P:Program) (kt:TypeId) (ek ev:α→Value) (b:Nat) (L:List α):Asrt:=fun w F=>F=[b]∧MapR P kt w b (tabR ek ev L) L.length
theorem TabA.framed (b:Nat) (L:List α):Framed (TabA P kt ek ev b L):=
 ⟨fun h hk=>⟨h.1,h.2.keep (hk b (by rw [h.1];simp))⟩,fun h b' hb=>by rw [h.1] at hb;simp at hb;subst hb;exact h.2.lt⟩
theorem TabA.perm {b:Nat} {L L':List α} {w:World} {F:List Nat} (h:TabA P kt ek ev b L w F) (hp:L'.Perm L):TabA P kt ek ev b L' w F:=
 ⟨h.1,by rw [hp.length_eq];exact h.2.congr (fun k v=>⟨fun ⟨x,hx,e⟩=>⟨x,hp.mem_iff.1 hx,e⟩,fun ⟨x,hx,e⟩=>⟨x,hp.mem_iff.2 hx,e⟩⟩)⟩
theorem strike_length {p:α→Bool} {key:Value}:∀ {L:List α},(L.map ek).Nodup→(∀ x∈L,p x=true↔ek x≠key) →
  ((∃ x∈L,ek x=key)→(L.filter p).length+1=L.length)∧((∀ x∈L,ek x≠key)→L.filter p=L)
 | [],_,_=>⟨fun ⟨x,hx,_⟩=>by simp at hx,fun _=>rfl⟩
 | y::r,hn,hp=>by
  obtain⟨n1,n2⟩:=List.nodup_cons.1 hn
  obtain⟨i1,i2⟩:=strike_length n2 (fun x hx=>hp x (List.mem_cons_of_mem _ hx))
  have hy:=hp y (by simp)
  constructor
  ·rintro ⟨x,hx,e⟩
   by_cases hye:ek y=key
   ·have:p y=false:=by
     cases h:p y with
     | false=>rfl
     | true=>exact absurd hye (hy.1 h)
    have hr:r.filter p=r:=i2 (fun z hz e2=>n1 (by rw [hye,← e2];exact List.mem_map_of_mem hz))
    rw [List.filter_cons,if_neg (by simp [this]),hr];rfl
   ·have:p y=true:=hy.2 hye
    have hx':x∈r:=by
     rcases List.mem_cons.1 hx with rfl | hx
     ·exact absurd e hye
     ·exact hx
    rw [List.filter_cons,if_pos this,List.length_cons,List.length_cons,i1 ⟨x,hx',e⟩]
  ·intro h
   rw [List.filter_cons,if_pos (hy.2 (h y (by simp))),i2 (fun x hx=>h x (List.mem_cons_of_mem _ hx))]
variable {F0:List Nat} {w0 w:World} {R:List Asrt} {b:Nat} {L:List α} {mt et:TypeId} {key:Value} {kl:Lit}
theorem tab_look (h:In F0 w0 w R) (i:Nat) (hA:R[i]?=some (TabA P kt ek ev b L)) (K:Keyed P kt) (hmt:P.underlying mt=some (.map kt et)) {z:Value} (hz:(zeroValue et).run P w=.ok z w) (hkey:keyOf P kt key=some kl) (c:Bool) :
  (∃ x∈L,ek x=key∧(Instr.lookup mt (.map (some b)) key c).run P w=.ok (if c then .tuple #[ev x,.bool true] else ev x) w) ∨
  ((∀ x∈L,ek x≠key)∧(Instr.lookup mt (.map (some b)) key c).run P w=.ok (if c then .tuple #[z,.bool false] else z) w):=by
 obtain⟨F,_,hm⟩:=h.get i hA
 rcases hm.look K hmt hz hkey c with ⟨v,⟨x,hx,e1,rfl⟩,hr⟩|⟨hn,hr⟩
 ·exact Or.inl ⟨x,hx,e1.symm,hr⟩
 ·exact Or.inr ⟨fun x hx e=>hn (ev x) ⟨x,hx,e.symm,rfl⟩,hr⟩
theorem tab_put (h:In F0 w0 w R) (i:Nat) (hA:R[i]?=some (TabA P kt ek ev b L)) (K:Keyed P kt) (hmt:P.underlying mt=some (.map kt et)) (y:α) (hkey:keyOf P kt (ek y)=some kl) (hn:(L.map ek).Nodup) (p:α→Bool) (hp:∀ x∈L,p x=true↔ek x≠ek y) :
  ∃ w',(Instr.mapUpdate mt (.map (some b)) (ek y) (ev y)).run P w=.ok () w'∧Turn b w w'∧In F0 w0 w' (R.set i (TabA P kt ek ev b (y::L.filter p))):=by
 obtain⟨F,_,hm⟩:=h.get i hA
 obtain⟨w',hr,ht,hc⟩:=hm.put K hmt (val:=ev y) hkey
 obtain⟨s1,s2⟩:=strike_length hn hp
 have hR:∀ k v,tabR ek ev (y::L.filter p) k v↔(k=ek y∧v=ev y)∨(k≠ek y∧tabR ek ev L k v):=by
  intro k v
  constructor
  ·rintro ⟨x,hx,rfl,rfl⟩
   rcases List.mem_cons.1 hx with rfl | hx
   ·exact Or.inl ⟨rfl,rfl⟩
   ·obtain⟨hx,hpx⟩:=List.mem_filter.1 hx
    exact Or.inr ⟨(hp x hx).1 hpx,x,hx,rfl,rfl⟩
  ·rintro (⟨rfl,rfl⟩|⟨hne,x,hx,rfl,rfl⟩)
   ·exact⟨y,by simp,rfl,rfl⟩
   ·exact⟨x,List.mem_cons_of_mem _ (List.mem_filter.2 ⟨hx,(hp x hx).2 hne⟩),rfl,rfl⟩
 refine⟨w',hr,ht,h.step i hA (TabA.framed _ _) fun F hF=>⟨F,⟨hF.1,?_⟩,Grew.refl _ _,?_⟩⟩
 ·rcases hc with ⟨⟨v,x,hx,e,_⟩,hc⟩|⟨hno,hc⟩
  ·rw [List.length_cons,s1 ⟨x,hx,e.symm⟩]
   exact hc.congr hR
  ·have:L.filter p=L:=s2 (fun x hx e=>hno (ev x) ⟨x,hx,e.symm,rfl⟩)
   rw [this] at hR ⊢
   exact hc.congr hR
 ·rw [hF.1];exact ht.mod
theorem tab_del (h:In F0 w0 w R) (i:Nat) (hA:R[i]?=some (TabA P kt ek ev b L)) (K:Keyed P kt) (hmt:P.underlying mt=some (.map kt et)) (hkey:keyOf P kt key=some kl) (hn:(L.map ek).Nodup) (p:α→Bool) (hp:∀ x∈L,p x=true↔ek x≠key) (k2 ty:TypeId) :
  ∃ w',(Builtin.delete_ #[mt,k2] ty #[.map (some b),key]).run P w=.ok (.tuple #[]) w'∧Turn b w w'∧In F0 w0 w' (R.set i (TabA P kt ek ev b (L.filter p))):=by
 obtain⟨F,_,hm⟩:=h.get i hA
 obtain⟨w',hr,ht,hc⟩:=hm.del K hmt hkey k2 ty
 obtain⟨s1,s2⟩:=strike_length hn hp
 have hR:∀ k v,tabR ek ev (L.filter p) k v↔(k≠key∧tabR ek ev L k v):=by
  intro k v
  constructor
  ·rintro ⟨x,hx,rfl,rfl⟩
   obtain⟨hx,hpx⟩:=List.mem_filter.1 hx
   exact⟨(hp x hx).1 hpx,x,hx,rfl,rfl⟩
  ·rintro ⟨hne,x,hx,rfl,rfl⟩
   exact⟨x,List.mem_filter.2 ⟨hx,(hp x hx).2 hne⟩,rfl,rfl⟩
 refine⟨w',hr,ht,h.step i hA (TabA.framed _ _) fun F hF=>⟨F,⟨hF.1,?_⟩,Grew.refl _ _,?_⟩⟩
 ·rcases hc with ⟨⟨v,x,hx,e,_⟩,hc,_⟩|⟨hno,hc⟩
  ·have e2:=s1 ⟨x,hx,e.symm⟩
   have e3:(L.filter p).length=L.length - 1:=by omega
   rw [e3]
   exact hc.congr hR
  ·have:L.filter p=L:=s2 (fun x hx e=>hno (ev x) ⟨x,hx,e.symm,rfl⟩)
   rw [this] at hR ⊢
   exact hc.congr hR
 ·rw [hF.1];exact ht.mod
theorem tab_len (h:In F0 w0 w R) (i:Nat) (hA:R[i]?=some (TabA P kt ek ev b L)) (hmt:P.underlying mt=some (.map kt et)) (ty:TypeId):(Builtin.len_ #[mt] ty #[.map (some b)]).run P w=.ok (.int .i64 L.length) w:=by
 obtain⟨F,_,hm⟩:=h.get i hA
 exact hm.len hmt ty
theorem tab_make (h:In F0 w0 w R) (P:Program) (kt:TypeId) (ek ev:α→Value):In F0 w0 (w.alloc (.map #[] 0)) (TabA P kt ek ev w.heap.size []::R):=by
 obtain⟨F,hs,hF⟩:=h.star
 have fr:=Framed.star h.framed
 refine⟨fun B hB=>?_,⟨[w.heap.size]++F,⟨[w.heap.size],F,⟨rfl,(map_made P kt w).congr (fun k v=>by simp [tabR])⟩,fr.keep hs (fun b hb=>hp_alloc_old (fr.lt hs b hb)),?_,rfl⟩,?_⟩,h.mod.alloc _⟩
 ·rcases List.mem_cons.1 hB with rfl | hB
  ·exact TabA.framed _ _
  ·exact h.framed B hB
 ·intro b hb hbF
  simp at hb;subst hb
  exact absurd (fr.lt hs _ hbF) (by omega)
 ·intro b hb
  simp at hb
  rcases hb with rfl | hb
  ·exact Or.inr h.mod.size
  ·exact hF b hb
theorem tab_perm (h:In F0 w0 w R) (i:Nat) (hA:R[i]?=some (TabA P kt ek ev b L)) {L':List α} (hp:L'.Perm L):In F0 w0 w (R.set i (TabA P kt ek ev b L')):=
 h.imp i hA (TabA.framed _ _) fun F hF=>hF.perm hp
end
section
variable {α:Type} {P:Program} {kt:TypeId} {ek ev:α→Value}
structure IterW (P:Program) (kt:TypeId) (ek ev:α→Value) (b r:Nat) (L done:List α) (w:World):Prop where
 map:MapR P kt w b (tabR ek ev L) L.length
 keys:(L.map ek).Nodup
 sub:∀ y∈done,y∈L
 once:done.Nodup
 it:∃ es clock since seen c0,w.heap[b]?=some (.map es clock)∧w.heap[r]?=some (.mapIter (some b) since seen c0)∧Stamped es clock∧(∀ x∈es.toList,x.born < since)∧since≤c0∧since≤clock ∧
  (∀ x∈es.toList,∀ y∈L,x.key=ek y→(seen.contains x.born=true↔y∈done))
theorem tab_val {b:Nat} {L:List α} {w:World} (h:MapR P kt w b (tabR ek ev L) L.length):∃ es clock,w.heap[b]?=some (.map es clock)∧Stamped es clock∧(∀ x∈es.toList,∃ y∈L,x.key=ek y∧x.val=ev y)∧(∀ y∈L,∃ x∈es.toList,x.key=ek y∧x.val=ev y)∧es.size=L.length:=by
 obtain⟨es,clock,h1,h2,h3,h4,h5⟩:=h.ex
 refine⟨es,clock,h1,h2,fun x hx=>?_,fun y hy=>?_,h5⟩
 ·obtain⟨i,hi,rfl⟩:=List.mem_iff_getElem.1 hx
  obtain⟨y,hy,e1,e2⟩:=(h4 es[i].key es[i].val).2 ⟨i,es[i],by simp at hi ⊢,rfl,rfl⟩
  exact⟨y,hy,e1,e2⟩
 ·obtain⟨i,x,hx,e1,e2⟩:=(h4 (ek y) (ev y)).1 ⟨y,hy,rfl,rfl⟩
  exact⟨x,by rw [Array.mem_toList_iff];exact Array.mem_of_getElem? hx,e1,e2⟩
theorem ek_inj {L:List α} (hk:(L.map ek).Nodup) {x y:α} (hx:x∈L) (hy:y∈L) (h:ek x=ek y):x=y:=by
 obtain⟨i,hi,rfl⟩:=List.mem_iff_getElem.1 hx
 obtain⟨j,hj,rfl⟩:=List.mem_iff_getElem.1 hy
 have:(L.map ek)[i]?=(L.map ek)[j]?:=by simp [hi,hj,h]
 have:=(List.getElem?_inj (by simpa using hi) hk).1 this
 subst this;rfl
theorem IterW.keep {b r:Nat} {L done:List α} {w w':World} (h:IterW P kt ek ev b r L done w) (h1:w'.heap[b]?=w.heap[b]?) (h2:w'.heap[r]?=w.heap[r]?):IterW P kt ek ev b r L done w':=by
 obtain⟨m,k,s,o,es,clock,since,seen,c0,e1,e2,e3⟩:=h
 exact⟨m.keep h1,k,s,o,es,clock,since,seen,c0,h1.trans e1,h2.trans e2,e3⟩
theorem IterW.lt {b r:Nat} {L done:List α} {w:World} (h:IterW P kt ek ev b r L done w):b < w.heap.size∧r < w.heap.size∧r≠b:=by
 obtain⟨m,k,s,o,es,clock,since,seen,c0,e1,e2,e3⟩:=h
 refine⟨hp_lt e1,hp_lt e2,?_⟩
 rintro rfl;rw [e1] at e2;cases e2
theorem iter_range {b:Nat} {L:List α} {w:World} (h:MapR P kt w b (tabR ek ev L) L.length) (hk:(L.map ek).Nodup) {t et:TypeId} (ht:P.underlying t=some (.map kt et)) :
  ∃ o,(Instr.range t (.map (some b))).run P w=.ok (.pointer (some ⟨w.heap.size,0,none⟩)) (w.alloc o)∧IterW P kt ek ev b w.heap.size L [] (w.alloc o):=by
 obtain⟨es,clock,e1,e2,e3,e4,e5⟩:=tab_val h
 refine⟨.mapIter (some b) clock #[] clock,run_range_map w t kt et b es clock ht e1,h.keep (hp_alloc_old (hp_lt e1)),hk,by simp,by simp,es,clock,clock,#[],clock,(hp_alloc_old (hp_lt e1)).trans e1,hp_alloc_new,e2,e2.1,Nat.le_refl _,Nat.le_refl _,fun x _ y _ _=>by simp⟩
theorem iter_next [DecidableEq α] {b r:Nat} {L done:List α} {w:World} (h:IterW P kt ek ev b r L done w) (ty:TypeId) :
  (done.Perm L∧(Instr.next (.pointer (some ⟨r,0,none⟩)) false ty).run P w=.ok (.tuple #[.bool false]) w) ∨
  ∃ y∈L,y ∉ done∧∃ w',(Instr.next (.pointer (some ⟨r,0,none⟩)) false ty).run P w=.ok (.tuple #[.bool true,ek y,ev y]) w'∧IterW P kt ek ev b r L (done++[y]) w'∧w.grownBy w' (some r)∧w'.heap.size=w.heap.size∧w'.rangeLeft b r < w.rangeLeft b r ∧
   (Instr.entry (.pointer (some ⟨r,0,none⟩))).run P w'=.ok (.tuple #[ek y,ev y]) w':=by
 have hlt:=h.lt
 obtain⟨m,hk,hsub,hon,es,clock,since,seen,c0,hb,hr,hst,hold,hsc,hsk,hseen⟩:=h
 obtain⟨es',clock',hb',_,e3,e4,_⟩:=tab_val m
 rw [hb] at hb';cases hb'
 have hst':=(stamped_iff es clock).1 hst
 rcases run_next_at (P:=P) w ty r b since c0 seen es clock hr hb hold hsc with ⟨h0,hrun⟩|⟨e,he,w1,hal,hrun⟩
 ·refine Or.inl ⟨(List.perm_ext_iff_of_nodup hon (List.Pairwise.of_map ek (fun a b (h:ek a≠ek b)=>fun e=>h (by rw [e])) hk)).2 (fun y=>⟨hsub y,fun hy=>?_⟩),hrun⟩
  obtain⟨x,hx,ex,_⟩:=e4 y hy
  exact (hseen x hx y hy ex).1 (all_seen es seen h0 x hx)
 ·obtain⟨hem,hes⟩:=mem_left he
  obtain⟨y,hy,ey,ev'⟩:=e3 e hem
  have hyd:y ∉ done:=fun hd=>by
   have:=(hseen e hem y hy ey).2 hd
   rw [hes] at this;cases this
  have hr1:w1.heap[r]?=some (.mapIter (some b) since seen c0):=by rcases hal with rfl | rfl <;> exact hr
  have hb1:w1.heap[b]?=some (.map es clock):=by rcases hal with rfl | rfl <;> exact hb
  have hset:=heap_set (o':=.mapIter (some b) since (seen.push e.born) clock) hr1
  have hbn:(setBlock w1 r (.mapIter (some b) since (seen.push e.born) clock)).heap[b]?=some (.map es clock):=(hset.2 b (fun e1=>hlt.2.2 e1.symm)).trans hb1
  refine Or.inr ⟨y,hy,hyd,setBlock w1 r (.mapIter (some b) since (seen.push e.born) clock),by rw [← ey,← ev'];exact hrun,⟨m.keep (hbn.trans hb.symm),hk,?_,?_,es,clock,since,seen.push e.born,clock,hbn,hset.1,hst,hold,hsk,hsk,?_⟩,?_,?_,?_,?_⟩
  ·intro z hz
   rcases List.mem_append.1 hz with hz | hz
   ·exact hsub z hz
   ·simp at hz;subst hz;exact hy
  ·exact List.nodup_append.2 ⟨hon,by simp,fun a ha c hc=>by simp at hc;subst hc;exact fun e=>hyd (e ▸ ha)⟩
  ·intro x hx z hz ez
   rw [contains_push]
   have hzz:=hseen x hx z hz ez
   have hbe:(x.born == e.born)=true↔z=y:=by
    rw [beq_iff_eq]
    constructor
    ·intro hbn'
     have:x=e:=born_inj hst'.2.1 hx hem hbn'
     subst this
     exact ek_inj hk hz hy (ez.symm.trans ey)
    ·rintro rfl
     have:x=e:=entry_eq_of_key hst'.2.2 hx hem (ez.trans ey.symm)
     rw [this]
   simp only [Bool.or_eq_true,List.mem_append,List.mem_singleton]
   rw [hzz,hbe]
  ·rcases hal with rfl | rfl <;> exact⟨rfl,rfl,rfl,by simp [setBlock],fun i _ hi=>hset.2 i (fun e1=>hi (by rw [e1]))⟩
  ·rcases hal with rfl | rfl <;> simp [setBlock]
  ·unfold World.rangeLeft
   have h9:(setBlock w1 r (.mapIter (some b) since (seen.push e.born) clock)).heap[r]?=some (.mapIter (some b) since (seen.push e.born) clock):=hset.1
   rw [hbn,h9,hb,hr]
   exact left_shrinks es seen e he
  ·rw [← ey,← ev']
   exact run_entry_at _ r b since seen es clock e hset.1 hbn hem hst'.2.1
def IterA (P:Program) (kt:TypeId) (ek ev:α→Value) (b r:Nat) (L done:List α):Asrt:=fun w F=>F=[b,r]∧IterW P kt ek ev b r L done w
theorem IterA.framed (b r:Nat) (L done:List α):Framed (IterA P kt ek ev b r L done):=
 ⟨fun h hk=>⟨h.1,h.2.keep (hk b (by rw [h.1];simp)) (hk r (by rw [h.1];simp))⟩,fun h b' hb=>by
  rw [h.1] at hb;simp at hb
  rcases hb with rfl | rfl
  ·exact h.2.lt.1
  ·exact h.2.lt.2.1⟩
variable {F0:List Nat} {w0 w:World} {R:List Asrt} {b r:Nat} {L done:List α} {t et:TypeId}
theorem tab_range (h:In F0 w0 w R) (i:Nat) (hA:R[i]?=some (TabA P kt ek ev b L)) (hk:(L.map ek).Nodup) (ht:P.underlying t=some (.map kt et)) :
  ∃ o,(Instr.range t (.map (some b))).run P w=.ok (.pointer (some ⟨w.heap.size,0,none⟩)) (w.alloc o)∧In F0 w0 (w.alloc o) (R.set i (IterA P kt ek ev b w.heap.size L [])):=by
 obtain⟨F,hF,hm⟩:=h.get i hA
 obtain⟨o,h1,h2⟩:=iter_range hm hk ht
 refine⟨o,h1,h.step i hA (IterA.framed _ _ _ _) fun F hF=>⟨[b,w.heap.size],⟨rfl,h2⟩,fun x hx=>?_,(Mod.refl F w).alloc o⟩⟩
 simp at hx
 rcases hx with rfl | rfl
 ·left;rw [hF.1];simp
 ·right;exact Nat.le_refl _
theorem tab_next [DecidableEq α] (h:In F0 w0 w R) (i:Nat) (hA:R[i]?=some (IterA P kt ek ev b r L done)) (ty:TypeId) :
  (done.Perm L∧(Instr.next (.pointer (some ⟨r,0,none⟩)) false ty).run P w=.ok (.tuple #[.bool false]) w) ∨
  ∃ y∈L,y ∉ done∧∃ w',(Instr.next (.pointer (some ⟨r,0,none⟩)) false ty).run P w=.ok (.tuple #[.bool true,ek y,ev y]) w'∧In F0 w0 w' (R.set i (IterA P kt ek ev b r L (done++[y])))∧w'.rangeLeft b r < w.rangeLeft b r ∧
   (Instr.entry (.pointer (some ⟨r,0,none⟩))).run P w'=.ok (.tuple #[ek y,ev y]) w':=by
 obtain⟨F,hF,hm⟩:=h.get i hA
 rcases iter_next hm ty with ⟨h1,h2⟩|⟨y,hy,hyd,w',h1,h2,h3,h4,hl,h5⟩
 ·exact Or.inl ⟨h1,h2⟩
 ·refine Or.inr ⟨y,hy,hyd,w',h1,h.step i hA (IterA.framed _ _ _ _) fun F hF=>⟨F,⟨hF.1,h2⟩,Grew.refl _ _,(Mod.refl F w).of_grown h3 (fun k e=>Or.inl (by cases e;rw [hF.1];simp))⟩,hl,h5⟩
theorem tab_done (h:In F0 w0 w R) (i:Nat) (hA:R[i]?=some (IterA P kt ek ev b r L done)):In F0 w0 w (R.set i (TabA P kt ek ev b L)):=
 h.step i hA (TabA.framed _ _) fun F hF=>⟨[b],⟨rfl,hF.2.map⟩,fun x hx=>by simp at hx;subst hx;left;rw [hF.1];simp,Mod.refl _ _⟩
end
end Go.Proofs.YtaopfagclnocdaaGreatDoor
