/- Rows.StoreRefusesSaid -/
import Derived.WalkKit
import Derived.Below
import Derived.Deep.Draws
import Derived.Lib.Hide
import GoSem.Op.String
import Derived.Test.YtpmmiljakbojaaaGreatRows
import Derived.ProofKit
import Derived.Deep.QuietTactic
import Derived.BigQuiet
import Derived.BigRegion
import Derived.WalkLawsBesides
import Derived.WalkSpells
import Derived.Outline
import Derived.Maps.AppendAt
import Derived.OwnWalk
import Derived.Maps.Keyed
import Derived.Maps.OwnSet
namespace Go.Proofs.YtpmmiljakbojaaaGreat
open Go.RowKit
open Go.RowKit Go.MapKept Go.WideShapes
open Go.ChangeMaps (setBlock)
open Go.Maps (Keyed)
set_option linter.unusedVariables false
set_option maxHeartbeats 64000000
set_option maxRecDepth 100000
theorem hp_setCell_other {w:World} {a:Addr} {v:Value} {b:Nat} (h:b≠a.block):(w.setCell a v).heap[b]?=w.heap[b]?:=Below.heap_setCell w a v b h
theorem hp_setCell_same {w:World} {b o:Nat} {v:Value} {C:Array Value} {T:TypeId} {fz:Nat×Nat} (h:w.heap[b]?=some (.cells C T fz)) :
  (w.setCell ⟨b,o,none⟩ v).heap[b]?=some (.cells (C.setIfInBounds o v) T fz):=by
 simp only [World.setCell,Array.getElem?_modify]
 simp [h]
theorem hp_alloc_new {w:World} {o:Obj}:(w.alloc o).heap[w.heap.size]?=some o:=by
 show (w.heap.push o)[w.heap.size]?=some o
 simp
theorem hp_alloc_at {w:World} {o:Obj} {k:Nat} (h:k=w.heap.size):(w.alloc o).heap[k]?=some o:=by subst h;exact hp_alloc_new
theorem hp_alloc_old {w:World} {o:Obj} {b:Nat} (h:b < w.heap.size):(w.alloc o).heap[b]?=w.heap[b]?:=Below.heap_alloc w o b h
theorem hp_lt {w:World} {b:Nat} {o:Obj} (h:w.heap[b]?=some o):b < w.heap.size:=(Array.getElem?_eq_some_iff.1 h).1
theorem cell_of {w:World} {b o:Nat} {C:Array Value} {T:TypeId} {fz:Nat×Nat} {v:Value} (h:w.heap[b]?=some (.cells C T fz)) (hv:C[o]?=some v):w.cell? ⟨b,o,none⟩=some v:=by
 simp [World.cell?,h,hv]
theorem free_of {w:World} {b o:Nat} {C:Array Value} {T:TypeId} (h:w.heap[b]?=some (.cells C T (0,0))):w.frozen? ⟨b,o,none⟩=false:=by
 simp [World.frozen?,h]
structure Mod (F:List Nat) (w w':World):Prop where
 os:w'.os=w.os
 tape:w'.tape=w.tape
 output:w'.output=w.output
 size:w.heap.size≤w'.heap.size
 block:∀ b,b < w.heap.size→b ∉ F→w'.heap[b]?=w.heap[b]?
theorem Mod.refl (F:List Nat) (w:World):Mod F w w:=⟨rfl,rfl,rfl,Nat.le_refl _,fun _ _ _=>rfl⟩
theorem Mod.mono {F G:List Nat} {w w':World} (h:Mod F w w') (hs:∀ b∈F,b∈G):Mod G w w':=
 ⟨h.os,h.tape,h.output,h.size,fun b hb hn=>h.block b hb (fun hf=>hn (hs b hf))⟩
theorem Mod.trans {F G:List Nat} {a b c:World} (h:Mod F a b) (k:Mod G b c) (hs:∀ x∈G,x∈F∨a.heap.size≤x):Mod F a c:=
 ⟨k.os.trans h.os,k.tape.trans h.tape,k.output.trans h.output,Nat.le_trans h.size k.size,fun x hx hn=>
  (k.block x (Nat.lt_of_lt_of_le hx h.size) (fun hg=>by rcases hs x hg with h1 | h1;exact hn h1;omega)).trans (h.block x hx hn)⟩
theorem Mod.trans' {F:List Nat} {a b c:World} (h:Mod F a b) (k:Mod F b c):Mod F a c:=h.trans k (fun _ hx=>Or.inl hx)
theorem Mod.setCell {F:List Nat} {a w:World} (h:Mod F a w) {p:Addr} (hp:p.block∈F∨a.heap.size≤p.block) (u:Value):Mod F a (w.setCell p u):=
 ⟨h.os,h.tape,h.output,by simpa using h.size,fun b hb hn=>by
  rw [hp_setCell_other (by rintro rfl;rcases hp with h1 | h1;exact hn h1;omega)];exact h.block b hb hn⟩
theorem Mod.alloc {F:List Nat} {a w:World} (h:Mod F a w) (o:Obj):Mod F a (w.alloc o):=
 ⟨h.os,h.tape,h.output,by simp;have:=h.size;omega,fun b hb hn=>by
  rw [hp_alloc_old (Nat.lt_of_lt_of_le hb h.size)];exact h.block b hb hn⟩
theorem Mod.drewN {F:List Nat} {a w:World} (h:Mod F a w) (n:Nat):Mod F a (w.drewN n):=⟨h.os,h.tape,h.output,h.size,h.block⟩
theorem Mod.below {F:List Nat} {w w':World} {B:Nat} (h:Mod F w w') (hB:B≤w.heap.size) (hF:∀ b∈F,B≤b):Below B w w':=
 ⟨h.os,h.tape,h.output,h.size,fun k hk=>h.block k (by omega) (fun hf=>by have:=hF k hf;omega)⟩
theorem Mod.of_grown {F:List Nat} {a w w':World} {row:Option Nat} (h:Mod F a w) (hg:w.grownBy w' row) (hr:∀ k,row=some k→k∈F∨a.heap.size≤k):Mod F a w':=
 ⟨hg.os.trans h.os,hg.tape.trans h.tape,hg.output.trans h.output,Nat.le_trans h.size hg.size,fun b hb hn=>by
  rw [hg.block b (Nat.lt_of_lt_of_le hb h.size) (fun e=>by rcases hr b e.symm with h1 | h1;exact hn h1;omega)];exact h.block b hb hn⟩
def Grew (F F':List Nat) (w:World):Prop:=∀ b∈F',b∈F∨w.heap.size≤b
theorem Grew.refl (F:List Nat) (w:World):Grew F F w:=fun _ h=>Or.inl h
def Apart (F G:List Nat):Prop:=∀ b∈F,b ∉ G
theorem Apart.grew {F F' G:List Nat} {w:World} (h:Apart F G) (hg:Grew F F' w) (hG:∀ b∈G,b < w.heap.size):Apart F' G:=fun b hb hbG=>by
 rcases hg b hb with h1 | h1
 ·exact h b h1 hbG
 ·have:=hG b hbG;omega
/-! ### the order of texts -/
abbrev bl (x y:List UInt8):Bool:=Op.bytesLess x y
theorem bl_cons (a b:UInt8) (x y:List UInt8):bl (a::x) (b::y)=(a < b || (a == b && bl x y)):=by simp [bl,Op.bytesLess]
theorem bl_irrefl:∀ x:List UInt8,bl x x=false
 | []=>by simp [bl,Op.bytesLess]
 | a::x=>by rw [bl_cons,bl_irrefl x];simp
theorem bl_trans:∀ x y z:List UInt8,bl x y=true→bl y z=true→bl x z=true
 | [],_,[],_,h=>by cases ‹List UInt8› <;> simp [bl,Op.bytesLess] at h
 | [],_,_::_,_,_=>by simp [bl,Op.bytesLess]
 | _::_,[],_,h,_=>by simp [bl,Op.bytesLess] at h
 | _::_,_::_,[],_,h=>by simp [bl,Op.bytesLess] at h
 | a::x,b::y,c::z,h1,h2=>by
  rw [bl_cons] at *
  simp only [Bool.or_eq_true,decide_eq_true_eq,Bool.and_eq_true,beq_iff_eq] at *
  rcases h1 with h1 | ⟨rfl,h1⟩
  ·rcases h2 with h2 | ⟨rfl,h2⟩
   ·exact Or.inl (UInt8.lt_trans h1 h2)
   ·exact Or.inl h1
  ·rcases h2 with h2 | ⟨rfl,h2⟩
   ·exact Or.inl h2
   ·exact Or.inr ⟨rfl,bl_trans x y z h1 h2⟩
theorem bl_total:∀ x y:List UInt8,bl x y=false→bl y x=false→x=y
 | [],[],_,_=>rfl
 | [],_::_,h,_=>by simp [bl,Op.bytesLess] at h
 | _::_,[],_,h=>by simp [bl,Op.bytesLess] at h
 | a::x,b::y,h1,h2=>by
  rw [bl_cons] at h1 h2
  simp only [Bool.or_eq_false_iff,decide_eq_false_iff_not,Bool.and_eq_false_iff,beq_eq_false_iff_ne] at h1 h2
  have e:a=b:=UInt8.le_antisymm (UInt8.not_lt.1 h2.1) (UInt8.not_lt.1 h1.1)
  subst e
  have k1:bl x y=false:=by rcases h1.2 with h | h;exact absurd rfl h;exact h
  have k2:bl y x=false:=by rcases h2.2 with h | h;exact absurd rfl h;exact h
  rw [bl_total x y k1 k2]
/-! ### keys with times -/
abbrev KT:=ByteArray×Int
def klt (a b:KT):Bool:=decide (a.2 < b.2) || (a.2 == b.2 && bl a.1.data.toList b.1.data.toList)
theorem ba_ext {a b:ByteArray} (h:a.data.toList=b.data.toList):a=b:=by
 cases a;cases b;simp at h;simp [h]
abbrev kle (a b:KT):Prop:=klt b a=false
/-! ### the heap -/
abbrev par (c:Nat):Nat:=(c - 1) / 2
def HeapP (n:Nat) (g:Nat→KT):Prop:=∀ c,0 < c→c < n→kle (g (par c)) (g c)
structure ExceptP (n:Nat) (g:Nat→KT) (i:Nat):Prop where
 rest:∀ c,0 < c→c < n→c≠i→par c≠i→kle (g (par c)) (g c)
 over:∀ c,0 < c→c < n→par c=i→0 < i→kle (g (par i)) (g c)
def KidsP (n:Nat) (g:Nat→KT) (i:Nat):Prop:=∀ c,0 < c→c < n→par c=i→kle (g i) (g c)
def ParP (g:Nat→KT) (i:Nat):Prop:=0 < i→kle (g (par i)) (g i)
def swf (g:Nat→KT) (i j:Nat):Nat→KT:=fun k=>if k=j then g i else if k=i then g j else g k
structure MapR (P:Program) (kt:TypeId) (w:World) (b:Nat) (R:Value→Value→Prop) (n:Nat):Prop where
 ex:∃ es clock,w.heap[b]?=some (.map es clock)∧Stamped es clock∧(∀ x∈es.toList,∃ l,keyOf P kt x.key=some l)∧(∀ k v,R k v↔∃ (i:Nat) (x:MapEntry),es[i]?=some x∧x.key=k∧x.val=v)∧es.size=n
structure Turn (b:Nat) (w w':World):Prop where
 os:w'.os=w.os
 tape:w'.tape=w.tape
 output:w'.output=w.output
 drawn:w'.drawn=w.drawn
 size:w'.heap.size=w.heap.size
 block:∀ k,k≠b→w'.heap[k]?=w.heap[k]?
theorem Turn.mod {b:Nat} {w w':World} (h:Turn b w w'):Mod [b] w w':=⟨h.os,h.tape,h.output,by rw [h.size];exact Nat.le_refl _,fun k _ hk=>h.block k (by simpa using hk)⟩
theorem turn_setBlock {w:World} {b:Nat} {o o':Obj} (hb:w.heap[b]?=some o):Turn b w (setBlock w b o'):=
 ⟨rfl,rfl,rfl,rfl,by simp [setBlock],fun k hk=>(heap_set hb).2 k hk⟩
section
variable {P:Program} {kt et t:TypeId} {w:World} {b n:Nat} {R:Value→Value→Prop}
theorem MapR.congr (h:MapR P kt w b R n) {R':Value→Value→Prop} (e:∀ k v,R' k v↔R k v):MapR P kt w b R' n:=by
 obtain⟨es,clock,h1,h2,h3,h4,h5⟩:=h.ex
 exact⟨es,clock,h1,h2,h3,fun k v=>(e k v).trans (h4 k v),h5⟩
theorem MapR.keep (h:MapR P kt w b R n) {w':World} (e:w'.heap[b]?=w.heap[b]?):MapR P kt w' b R n:=by
 obtain⟨es,clock,h1,h2⟩:=h.ex
 exact⟨es,clock,e.trans h1,h2⟩
theorem MapR.lt (h:MapR P kt w b R n):b < w.heap.size:=by
 obtain⟨es,clock,h1,_⟩:=h.ex
 exact hp_lt h1
theorem map_made (P:Program) (kt:TypeId) (w:World):MapR P kt (w.alloc (.map #[] 0)) w.heap.size (fun _ _=>False) 0:=
 ⟨#[],0,hp_alloc_new,stamped_empty 0,by simp,by simp,rfl⟩
theorem keys_ne {es:Array MapEntry} {clock:Nat} (h:Stamped es clock) {i j:Nat} {x y:MapEntry} (hi:es[i]?=some x) (hj:es[j]?=some y) (hij:i≠j):x.key≠y.key:=by
 have hk:=h.2.2
 have li:i < es.size:=(Array.getElem?_eq_some_iff.1 hi).1
 have lj:j < es.size:=(Array.getElem?_eq_some_iff.1 hj).1
 have ei:es[i]=x:=(Array.getElem?_eq_some_iff.1 hi).2
 have ej:es[j]=y:=(Array.getElem?_eq_some_iff.1 hj).2
 intro e
 have:(es.toList.map (·.key))[i]?=(es.toList.map (·.key))[j]?:=by simp [hi,hj,e]
 exact hij ((List.getElem?_inj (by simpa using li) hk).1 this)
theorem MapR.look (h:MapR P kt w b R n) (K:Keyed P kt) (ht:P.underlying t=some (.map kt et)) {z:Value} (hz:(zeroValue et).run P w=.ok z w) {key:Value} {kl:Lit} (hkey:keyOf P kt key=some kl) (c:Bool) :
  (∃ v,R key v∧(Instr.lookup t (.map (some b)) key c).run P w=.ok (if c then .tuple #[v,.bool true] else v) w) ∨
  ((∀ v,¬ R key v)∧(Instr.lookup t (.map (some b)) key c).run P w=.ok (if c then .tuple #[z,.bool false] else z) w):=by
 obtain⟨es,clock,hb,hs,hk,hR,_⟩:=h.ex
 rcases K.find w hkey es.toList hk with ⟨h1,h2⟩|⟨j,e0,h1,h2,h3⟩
 ·refine Or.inr ⟨fun v hv=>?_,by simp [Instr.lookup,run_underlying ht,MapKept.run_getObj_map hb,K.check w _ hkey,h1,hz,Result.andThen]⟩
  obtain⟨i,x,hi,hxk,_⟩:=(hR _ _).1 hv
  exact h2 x (by rw [Array.mem_toList_iff];exact Array.mem_of_getElem? hi) hxk
 ·exact Or.inl ⟨e0.val,(hR _ _).2 ⟨j,e0,by simpa using h2,h3,rfl⟩,by simp [Instr.lookup,run_underlying ht,MapKept.run_getObj_map hb,K.check w _ hkey,h1,Result.andThen]⟩
theorem MapR.put (h:MapR P kt w b R n) (K:Keyed P kt) (ht:P.underlying t=some (.map kt et)) {key val:Value} {kl:Lit} (hkey:keyOf P kt key=some kl) :
  ∃ w',(Instr.mapUpdate t (.map (some b)) key val).run P w=.ok () w'∧Turn b w w' ∧
   (((∃ v,R key v)∧MapR P kt w' b (fun k v=>(k=key∧v=val)∨(k≠key∧R k v)) n)∨((∀ v,¬ R key v)∧MapR P kt w' b (fun k v=>(k=key∧v=val)∨(k≠key∧R k v)) (n+1))):=by
 obtain⟨es,clock,hb,hs,hk,hR,hn⟩:=h.ex
 rcases K.find w hkey es.toList hk with ⟨h1,h2⟩|⟨j,e0,h1,h2,h3⟩
 ·have hno:∀ v,¬ R key v:=fun v hv=>by
   obtain⟨i,x,hi,hxk,_⟩:=(hR _ _).1 hv
   exact h2 x (by rw [Array.mem_toList_iff];exact Array.mem_of_getElem? hi) hxk
  refine⟨setBlock w b (.map (es.push ⟨key,val,clock⟩) (clock+1)),by simp [Instr.mapUpdate,run_underlying ht,MapKept.run_getObj_map hb,K.check w false hkey,h1,MapKept.run_setObj_map _ hb,Result.andThen,setBlock],
   turn_setBlock hb,Or.inr ⟨hno,_,_,(heap_set hb).1,stamped_push hs h2,?_,?_,by simp [hn]⟩⟩
  ·intro x hx
   simp only [Array.toList_push,List.mem_append,List.mem_singleton] at hx
   rcases hx with hx | rfl
   ·exact hk x hx
   ·exact⟨_,hkey⟩
  ·intro k v
   constructor
   ·rintro (⟨rfl,rfl⟩|⟨hne,hv⟩)
    ·exact⟨es.size,⟨k,v,clock⟩,by simp,rfl,rfl⟩
    ·obtain⟨i,x,hi,hxk,hxv⟩:=(hR _ _).1 hv
     exact⟨i,x,by rw [Array.getElem?_push,if_neg (by have:=(Array.getElem?_eq_some_iff.1 hi).1;omega)];exact hi,hxk,hxv⟩
   ·rintro ⟨i,x,hi,hxk,hxv⟩
    rw [Array.getElem?_push] at hi
    split at hi
    ·cases hi;exact Or.inl ⟨hxk.symm,hxv.symm⟩
    ·refine Or.inr ⟨?_,(hR _ _).2 ⟨i,x,hi,hxk,hxv⟩⟩
     rintro rfl
     exact h2 x (by rw [Array.mem_toList_iff];exact Array.mem_of_getElem? hi) hxk
 ·have hj:es[j]?=some e0:=by simpa using h2
  have hkey':((es[j]?).map (·.key)).getD key=key:=by simp [hj,h3]
  refine⟨setBlock w b (.map (es.modify j fun e=>{ e with key:=key,val:=val }) clock),?_,turn_setBlock hb,Or.inl ⟨⟨e0.val,(hR _ _).2 ⟨j,e0,hj,h3,rfl⟩⟩,_,_,(heap_set hb).1,?_,?_,?_,by simp [hn]⟩⟩
  ·have hst:=K.stays w hkey
   simp [Instr.mapUpdate,run_underlying ht,MapKept.run_getObj_map hb,K.check w false hkey,h1,h3,hst,hj,MapKept.run_setObj_map _ hb,Result.andThen,setBlock]
  ·exact stamped_modify hs j _ (fun _ _=>rfl) (fun e _ he=>by rw [hj] at he;cases he;exact h3.symm)
  ·intro x hx
   rw [Array.mem_toList_iff,Array.mem_iff_getElem?] at hx
   obtain⟨i,hi⟩:=hx
   rw [Array.getElem?_modify] at hi
   split at hi
   ·rename_i e;subst e;rw [hj] at hi;simp at hi;subst hi;exact⟨_,hkey⟩
   ·exact hk x (by rw [Array.mem_toList_iff];exact Array.mem_of_getElem? hi)
  ·intro k v
   constructor
   ·rintro (⟨rfl,rfl⟩|⟨hne,hv⟩)
    ·exact⟨j,{ e0 with key:=k,val:=v },by rw [Array.getElem?_modify,if_pos rfl,hj];rfl,rfl,rfl⟩
    ·obtain⟨i,x,hi,hxk,hxv⟩:=(hR _ _).1 hv
     refine⟨i,x,?_,hxk,hxv⟩
     rw [Array.getElem?_modify,if_neg]
     ·exact hi
     ·rintro rfl;rw [hj] at hi;cases hi;exact hne (hxk.symm.trans h3)
   ·rintro ⟨i,x,hi,hxk,hxv⟩
    rw [Array.getElem?_modify] at hi
    split at hi
    ·rename_i e;subst e;rw [hj] at hi;simp at hi;subst hi;exact Or.inl ⟨hxk.symm,hxv.symm⟩
    ·rename_i e
     refine Or.inr ⟨?_,(hR _ _).2 ⟨i,x,hi,hxk,hxv⟩⟩
     rintro rfl
     exact keys_ne hs hi hj (Ne.symm e) (hxk.trans h3.symm)
theorem MapR.del (h:MapR P kt w b R n) (K:Keyed P kt) (ht:P.underlying t=some (.map kt et)) {key:Value} {kl:Lit} (hkey:keyOf P kt key=some kl) (k2 ty:TypeId) :
  ∃ w',(Builtin.delete_ #[t,k2] ty #[.map (some b),key]).run P w=.ok (.tuple #[]) w'∧Turn b w w' ∧
   (((∃ v,R key v)∧MapR P kt w' b (fun k v=>k≠key∧R k v) (n - 1)∧1≤n)∨((∀ v,¬ R key v)∧MapR P kt w' b (fun k v=>k≠key∧R k v) n)):=by
 obtain⟨es,clock,hb,hs,hk,hR,hn⟩:=h.ex
 rcases K.find w hkey es.toList hk with ⟨h1,h2⟩|⟨j,e0,h1,h2,h3⟩
 ·have hno:∀ v,¬ R key v:=fun v hv=>by
   obtain⟨i,x,hi,hxk,_⟩:=(hR _ _).1 hv
   exact h2 x (by rw [Array.mem_toList_iff];exact Array.mem_of_getElem? hi) hxk
  refine⟨setBlock w b (.map es clock),by simp [Builtin.delete_,run_underlying ht,MapKept.run_getObj_map hb,K.check w _ hkey,h1,MapKept.run_setObj_map _ hb,Result.andThen,setBlock],
   turn_setBlock hb,Or.inr ⟨hno,_,_,(heap_set hb).1,hs,hk,fun k v=>?_,hn⟩⟩
  rw [← hR]
  constructor
  ·exact fun h=>h.2
  ·intro h;exact⟨by rintro rfl;exact hno _ h,h⟩
 ·have hj:es[j]?=some e0:=by simpa using h2
  have lj:j < es.size:=(Array.getElem?_eq_some_iff.1 hj).1
  refine⟨setBlock w b (.map (es.eraseIdxIfInBounds j) clock),by simp [Builtin.delete_,run_underlying ht,MapKept.run_getObj_map hb,K.check w _ hkey,h1,MapKept.run_setObj_map _ hb,Result.andThen,setBlock],
   turn_setBlock hb,Or.inl ⟨⟨e0.val,(hR _ _).2 ⟨j,e0,hj,h3,rfl⟩⟩,⟨_,_,(heap_set hb).1,stamped_erase hs j,?_,?_,?_⟩,by omega⟩⟩
  ·intro x hx
   rw [Array.eraseIdxIfInBounds,dif_pos lj,Array.toList_eraseIdx] at hx
   exact hk x (List.mem_of_mem_eraseIdx hx)
  ·intro k v
   have key2:∀ x:MapEntry,(∃ i:Nat,(es.eraseIdxIfInBounds j)[i]?=some x)↔∃ i:Nat,i≠j∧es[i]?=some x:=by
    intro x
    rw [← Array.mem_iff_getElem?,← Array.mem_toList_iff,Array.eraseIdxIfInBounds,dif_pos lj,Array.toList_eraseIdx,List.mem_eraseIdx_iff_getElem?]
    simp
   constructor
   ·rintro ⟨hne,hv⟩
    obtain⟨i,x,hi,hxk,hxv⟩:=(hR _ _).1 hv
    obtain⟨i',hi'⟩:=(key2 x).2 ⟨i,by rintro rfl;rw [hj] at hi;cases hi;exact hne (hxk.symm.trans h3),hi⟩
    exact⟨i',x,hi',hxk,hxv⟩
   ·rintro ⟨i,x,hi,hxk,hxv⟩
    obtain⟨i',hne,hi'⟩:=(key2 x).1 ⟨i,hi⟩
    refine⟨?_,(hR _ _).2 ⟨i',x,hi',hxk,hxv⟩⟩
    rintro rfl
    exact keys_ne hs hi' hj hne (hxk.trans h3.symm)
  ·rw [Array.eraseIdxIfInBounds,dif_pos lj,Array.size_eraseIdx];omega
theorem MapR.len (h:MapR P kt w b R n) (ht:P.underlying t=some (.map kt et)) (ty:TypeId):(Builtin.len_ #[t] ty #[.map (some b)]).run P w=.ok (.int .i64 n) w:=by
 obtain⟨es,clock,hb,hs,hk,hR,hn⟩:=h.ex
 simp [Builtin.len_,run_underlying ht,MapKept.run_getObj_map hb,hn,Result.andThen,goInt]
end
end Go.Proofs.YtpmmiljakbojaaaGreat
