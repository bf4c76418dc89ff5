/- Rows.CompactBoundsSaid -/
import Derived.Test.YtaopfagclnocdaaGreatCU1
import Derived.Test.YtaopfagclnocdaaGreatCU2
import Derived.Maps.RangeWalk
import Derived.Maps.OwnIn
import Derived.RangeFuncStops
namespace Go.Proofs.YtaopfagclnocdaaGreat
open Go.RowKit
open Go.Maps (Keyed)
open Go.RowKit Go.MapKept
open Go.ChangeMaps (setBlock)
set_option linter.unusedVariables false
set_option maxHeartbeats 64000000
set_option maxRecDepth 100000
structure FileD where
 b:List UInt8
 sure:Nat
deriving DecidableEq,Inhabited
inductive ChgD where
 | made (n:ByteArray) (f:Nat)
 | ren (a b:ByteArray)
 | rem (n:ByteArray)
deriving DecidableEq
abbrev NmL:=List (ByteArray×Nat)
structure DiskD where
 quota:Nat
 files:List FileD
 now:NmL
 sure:NmL
 ch:List ChgD
 ops:Nat
 fail:Nat
def nlt (a b:ByteArray):Bool:=bl a.data.toList b.data.toList
def nmAt (N:NmL) (n:ByteArray):Option Nat:=(N.find? (fun x=>decide (x.1=n))).map (·.2)
def nmDel (N:NmL) (n:ByteArray):NmL:=N.filter (fun x=>decide (x.1≠n))
def nmIns (n:ByteArray) (f:Nat):NmL→NmL
 | []=>[(n,f)]
 | x::r=>if nlt n x.1 then (n,f)::x::r else x::nmIns n f r
def nmPut (N:NmL) (n:ByteArray) (f:Nat):NmL:=nmIns n f (nmDel N n)
def nmDo (N:NmL):ChgD→NmL
 | .made n f=>nmPut N n f
 | .ren a b=>match nmAt N a with
  | some f=>nmDel (nmPut N b f) a
  | none=>N
 | .rem n=>nmDel N n
def namedB (n:ByteArray):Bool:=decide (1≤n.size∧n.size≤16)
def flen (d:DiskD) (i:Nat):Nat:=(d.files.getD i default).b.length
def dSize (d:DiskD):Nat:=(d.now.map (fun x=>flen d x.2)).sum
def dNew (quota:Int):DiskD:=⟨(max 0 (min quota 67108864)).toNat,[],[],[],[],0,0⟩
def dFail (d:DiskD) (n:Int):DiskD:={ d with fail:=if 1≤n∧n≤4611686018427387904 then n.toNat else 0 }
def dTick (d:DiskD):DiskD:=⟨d.quota,d.files,d.now,d.sure,d.ch,d.ops+1,d.fail - 1⟩
def dSet (d:DiskD) (i:Nat) (x:FileD):DiskD:=⟨d.quota,d.files.set i x,d.now,d.sure,d.ch,d.ops,d.fail⟩
def dGrow (d:DiskD):DiskD:=⟨d.quota,d.files++[⟨[],0⟩],d.now,d.sure,d.ch,d.ops,d.fail⟩
def dFails (d:DiskD):Prop:=d.fail=1
instance (d:DiskD):Decidable (dFails d):=inferInstanceAs (Decidable (d.fail=1))
def dFirm (d:DiskD):DiskD:=⟨d.quota,d.files,d.now,d.now,[],d.ops,d.fail⟩
def dChange (d:DiskD) (c:ChgD):DiskD:=⟨d.quota,d.files,nmDo d.now c,d.sure,d.ch++[c],d.ops,d.fail⟩
def dWrite (d:DiskD) (i:Nat) (b:List UInt8):DiskD:=dSet d i ⟨(d.files.getD i default).b++b,(d.files.getD i default).sure⟩
def dRoom (d:DiskD) (f:Option Nat) (n:Nat):Bool:=
 decide (dSize d≤d.quota∧n+dSize d≤d.quota∧n+(match f with | some i=>flen d i | none=>0)≤1048576∧(f=none→d.now.length < 200))
def dAppend (d:DiskD) (n:ByteArray) (b:List UInt8):DiskD×Int:=
 if dFails d then (dTick d,8) else
 if namedB n=false then (dTick d,1) else
 if dRoom d (nmAt d.now n) b.length=false then (dTick d,7) else
 match nmAt d.now n with
 | some i=>(dWrite (dTick d) i b,0)
 | none=>(dWrite (dChange (dGrow (dTick d)) (.made n d.files.length)) d.files.length b,0)
def dSync (d:DiskD) (n:ByteArray):DiskD×Int:=
 if dFails d then (dTick d,8) else
 match nmAt d.now n with
 | some i=>(dSet (dTick d) i ⟨(d.files.getD i default).b,(d.files.getD i default).b.length⟩,0)
 | none=>(dTick d,6)
def dCut (d:DiskD) (n:ByteArray) (k:Int):DiskD×Int:=
 if dFails d then (dTick d,8) else
 match nmAt d.now n with
 | some i=>if k < 0∨(flen d i:Int) < k then (dTick d,1) else (dSet (dTick d) i ⟨(d.files.getD i default).b.take k.toNat,k.toNat⟩,0)
 | none=>(dTick d,6)
def dRename (d:DiskD) (a b:ByteArray):DiskD×Int:=
 if dFails d then (dTick d,8) else
 match nmAt d.now a with
 | some i=>if namedB b=false then (dTick d,1) else if a=b then (dTick d,0) else (dChange (dTick d) (.ren a b),0)
 | none=>(dTick d,6)
def dRemove (d:DiskD) (n:ByteArray):DiskD×Int:=
 if dFails d then (dTick d,8) else
 match nmAt d.now n with
 | some i=>(dChange (dTick d) (.rem n),0)
 | none=>(dTick d,6)
def dSyncDir (d:DiskD):DiskD×Int:=
 if dFails d then (dTick d,8) else (dFirm (dTick d),0)
def dRead (d:DiskD) (n:ByteArray):Option (List UInt8):=(nmAt d.now n).map (fun i=>(d.files.getD i default).b)
def dNames (d:DiskD):List ByteArray:=d.now.map (·.1)
def pickN (p:List UInt8) (n:Nat):Nat:=match p with
 | []=>0
 | x::_=>x.toNat % (n+1)
def cutF (f:FileD) (k:Nat):FileD:=⟨f.b.take (f.sure+k),f.sure+k⟩
def crashFiles:NmL→List FileD→List UInt8→List FileD
 | [],fs,_=>fs
 | x::r,fs,p=>crashFiles r (fs.set x.2 (cutF (fs.getD x.2 default) (pickN p ((fs.getD x.2 default).b.length - (fs.getD x.2 default).sure)))) p.tail
def crashNames (d:DiskD) (p:List UInt8):NmL:=(d.ch.take (pickN p d.ch.length)).foldl nmDo d.sure
def dCrash (d:DiskD) (p:List UInt8):DiskD:=
 { d with files:=crashFiles (crashNames d p) d.files p.tail,now:=crashNames d p,sure:=crashNames d p,ch:=[],fail:=0 }
structure NmOk (N:NmL) (k:Nat):Prop where
 row:N.Pairwise (fun x y=>nlt x.1 y.1=true)
 ids:(N.map (·.2)).Nodup
 lt:∀ x∈N,x.2 < k
 named:∀ x∈N,namedB x.1=true
 few:N.length≤200
def Hist:NmL→List ChgD→NmL→Nat→Prop
 | N,[],M,k=>N=M∧NmOk N k
 | N,c::r,M,k=>NmOk N k∧(∀ a b,c=.ren a b→a≠b∧∃ f,nmAt N a=some f)∧Hist (nmDo N c) r M k
structure DiskOk (d:DiskD):Prop where
 quota:d.quota≤67108864
 file:∀ f∈d.files,f.b.length≤1048576∧f.sure≤f.b.length
 hist:Hist d.sure d.ch d.now d.files.length
 chops:d.ch.length≤d.ops
 fops:d.files.length≤d.ops
 fail:d.fail≤4611686018427387904
 rems:∀ n,ChgD.rem n∈d.ch→n.size≤16
theorem nlt_irrefl (a:ByteArray):nlt a a=false:=bl_irrefl _
theorem nmAt_none {N:NmL} {n:ByteArray}:nmAt N n=none↔∀ x∈N,x.1≠n:=by
 simp [nmAt,List.find?_eq_none]
theorem nmAt_mem {N:NmL} {n:ByteArray} {f:Nat} (h:nmAt N n=some f):(n,f)∈N:=by
 unfold nmAt at h
 cases e:N.find? (fun x=>decide (x.1=n)) with
 | none=>rw [e] at h;cases h
 | some x=>
  rw [e] at h
  have h1:=List.mem_of_find?_eq_some e
  have h2:=List.find?_some e
  simp at h h2
  subst h;subst h2;exact h1
def NmRow (N:NmL):Prop:=N.Pairwise (fun x y=>nlt x.1 y.1=true)
theorem NmRow.keys {N:NmL} (h:NmRow N):(N.map (·.1)).Nodup:=by
 refine List.pairwise_map.2 (h.imp fun {a b} hl e=>?_)
 rw [e,nlt_irrefl] at hl;cases hl
theorem nm_key {N:NmL} (h:(N.map (·.1)).Nodup) {n:ByteArray} {f g:Nat} (h1:(n,f)∈N) (h2:(n,g)∈N):f=g:=by
 induction N with
 | nil=>simp at h1
 | cons x r ih=>
  obtain⟨n1,n2⟩:=List.nodup_cons.1 h
  rcases List.mem_cons.1 h1 with e1 | h1
  ·rcases List.mem_cons.1 h2 with e2 | h2
   ·rw [← e1] at e2;cases e2;rfl
   ·exact absurd (List.mem_map_of_mem (f:=(·.1)) h2) (by rw [← e1] at n1;exact n1)
  ·rcases List.mem_cons.1 h2 with e2 | h2
   ·exact absurd (List.mem_map_of_mem (f:=(·.1)) h1) (by rw [← e2] at n1;exact n1)
   ·exact ih n2 h1 h2
theorem nmAt_some {N:NmL} (h:(N.map (·.1)).Nodup) {n:ByteArray} {f:Nat}:nmAt N n=some f↔(n,f)∈N:=by
 refine⟨nmAt_mem,fun hm=>?_⟩
 cases e:nmAt N n with
 | none=>exact absurd rfl (nmAt_none.1 e _ hm)
 | some g=>rw [nm_key h (nmAt_mem e) hm]
theorem nmDel_mem {N:NmL} {n:ByteArray} {x:ByteArray×Nat}:x∈nmDel N n↔x∈N∧x.1≠n:=by simp [nmDel]
theorem nmDel_row {N:NmL} (h:NmRow N) (n:ByteArray):NmRow (nmDel N n):=h.sublist List.filter_sublist
theorem nmIns_mem {n:ByteArray} {f:Nat} {x:ByteArray×Nat}:∀ {N:NmL},x∈nmIns n f N↔x=(n,f)∨x∈N
 | []=>by simp [nmIns]
 | y::r=>by
  unfold nmIns
  split
  ·simp
  ·rw [List.mem_cons,nmIns_mem,List.mem_cons]
   constructor
   ·rintro (h | h | h) <;> simp [h]
   ·rintro (h | h | h) <;> simp [h]
theorem nmIns_perm (n:ByteArray) (f:Nat):∀ (N:NmL),(nmIns n f N).Perm ((n,f)::N)
 | []=>List.Perm.refl _
 | y::r=>by
  unfold nmIns
  split
  ·exact List.Perm.refl _
  ·exact ((nmIns_perm n f r).cons y).trans (List.Perm.swap _ _ _)
theorem nlt_trans {a b c:ByteArray} (h1:nlt a b=true) (h2:nlt b c=true):nlt a c=true:=bl_trans _ _ _ h1 h2
theorem nlt_total {a b:ByteArray} (h1:nlt a b=false) (h2:nlt b a=false):a=b:=ba_ext (bl_total _ _ h1 h2)
theorem nmIns_row {n:ByteArray} {f:Nat}:∀ {N:NmL},NmRow N→(∀ x∈N,x.1≠n)→NmRow (nmIns n f N)
 | [],_,_=>List.pairwise_singleton _ _
 | y::r,h,hn=>by
  obtain⟨h1,h2⟩:=List.pairwise_cons.1 h
  unfold nmIns
  split
  ·rename_i hl
   refine List.pairwise_cons.2 ⟨fun z hz=>?_,h⟩
   rcases List.mem_cons.1 hz with rfl | hz
   ·exact hl
   ·exact nlt_trans hl (h1 z hz)
  ·rename_i hl
   refine List.pairwise_cons.2 ⟨fun z hz=>?_,nmIns_row h2 (fun x hx=>hn x (List.mem_cons_of_mem _ hx))⟩
   rcases nmIns_mem.1 hz with rfl | hz
   ·show nlt y.1 n=true
    cases e:nlt y.1 n with
    | true=>rfl
    | false=>exact absurd (nlt_total e (by simpa using hl)) (hn y (by simp))
   ·exact h1 z hz
theorem nmPut_row {N:NmL} (h:NmRow N) (n:ByteArray) (f:Nat):NmRow (nmPut N n f):=
 nmIns_row (nmDel_row h n) (fun x hx=>(nmDel_mem.1 hx).2)
theorem nmPut_mem {N:NmL} {n:ByteArray} {f:Nat} {x:ByteArray×Nat}:x∈nmPut N n f↔x=(n,f)∨(x∈N∧x.1≠n):=by
 unfold nmPut;rw [nmIns_mem,nmDel_mem]
theorem nmPut_perm (N:NmL) (n:ByteArray) (f:Nat):(nmPut N n f).Perm ((n,f)::nmDel N n):=nmIns_perm n f _
theorem nmAt_put {N:NmL} (h:NmRow N) (n m:ByteArray) (f:Nat):nmAt (nmPut N n f) m=if m=n then some f else nmAt N m:=by
 have hk:=(nmPut_row h n f).keys
 split
 ·rename_i e;subst e
  exact (nmAt_some hk).2 (nmPut_mem.2 (Or.inl rfl))
 ·rename_i e
  cases e2:nmAt N m with
  | none=>exact nmAt_none.2 (fun x hx=>by
    rcases nmPut_mem.1 hx with rfl | ⟨hx,_⟩
    ·exact fun h=>e h.symm
    ·exact nmAt_none.1 e2 x hx)
  | some g=>exact (nmAt_some hk).2 (nmPut_mem.2 (Or.inr ⟨nmAt_mem e2,e⟩))
theorem nmAt_del {N:NmL} (h:NmRow N) (n m:ByteArray):nmAt (nmDel N n) m=if m=n then none else nmAt N m:=by
 split
 ·rename_i e;subst e
  exact nmAt_none.2 (fun x hx=>(nmDel_mem.1 hx).2)
 ·rename_i e
  cases e2:nmAt N m with
  | none=>exact nmAt_none.2 (fun x hx=>nmAt_none.1 e2 x (nmDel_mem.1 hx).1)
  | some g=>exact (nmAt_some (nmDel_row h n).keys).2 (nmDel_mem.2 ⟨nmAt_mem e2,e⟩)
theorem nmDel_ids {N:NmL} (h:(N.map (·.2)).Nodup) (n:ByteArray):((nmDel N n).map (·.2)).Nodup:=h.sublist (List.filter_sublist.map _)
theorem nmDel_len (N:NmL) (n:ByteArray):(nmDel N n).length≤N.length:=List.length_filter_le _ _
theorem hist_snoc {N M:NmL} {l:List ChgD} {c:ChgD} {k k':Nat} (h:Hist N l M k) (hkk:k≤k') (hc:∀ a b,c=.ren a b→a≠b∧∃ f,nmAt M a=some f) (hok:NmOk (nmDo M c) k'):Hist N (l++[c]) (nmDo M c) k':=by
 induction l generalizing N with
 | nil=>obtain⟨rfl,h0⟩:=h;exact⟨⟨h0.row,h0.ids,fun x hx=>by have:=h0.lt x hx;omega,h0.named,h0.few⟩,hc,rfl,hok⟩
 | cons c' r ih=>obtain⟨h0,h1,h2⟩:=h;exact⟨⟨h0.row,h0.ids,fun x hx=>by have:=h0.lt x hx;omega,h0.named,h0.few⟩,h1,ih h2⟩
theorem hist_last {N M:NmL} {l:List ChgD} {k:Nat} (h:Hist N l M k):NmOk M k∧l.foldl nmDo N=M:=by
 induction l generalizing N with
 | nil=>obtain⟨rfl,h0⟩:=h;exact⟨h0,rfl⟩
 | cons c r ih=>exact ih h.2.2
theorem hist_more {N M:NmL} {l:List ChgD} {k k':Nat} (h:Hist N l M k) (hk:k≤k'):Hist N l M k':=by
 induction l generalizing N with
 | nil=>obtain⟨rfl,h0⟩:=h;exact⟨rfl,h0.row,h0.ids,fun x hx=>by have:=h0.lt x hx;omega,h0.named,h0.few⟩
 | cons c r ih=>obtain⟨h0,h1,h2⟩:=h;exact⟨⟨h0.row,h0.ids,fun x hx=>by have:=h0.lt x hx;omega,h0.named,h0.few⟩,h1,ih h2⟩
theorem NmOk.del {N:NmL} {k:Nat} (h:NmOk N k) (n:ByteArray):NmOk (nmDel N n) k:=
 ⟨nmDel_row h.row n,nmDel_ids h.ids n,fun x hx=>h.lt x (nmDel_mem.1 hx).1,fun x hx=>h.named x (nmDel_mem.1 hx).1,Nat.le_trans (nmDel_len _ _) h.few⟩
theorem NmOk.put {N:NmL} {k:Nat} (h:NmOk N k) {n:ByteArray} {f:Nat} (hf:f < k) (hn:namedB n=true) (hno:∀ x∈nmDel N n,x.2≠f) (hl:(nmDel N n).length < 200):NmOk (nmPut N n f) k:=by
 have hp:=nmPut_perm N n f
 refine⟨nmPut_row h.row n f,?_,fun x hx=>?_,fun x hx=>?_,?_⟩
 ·refine (hp.map (·.2)).nodup_iff.2 (List.nodup_cons.2 ⟨fun hm=>?_,nmDel_ids h.ids n⟩)
  obtain⟨x,hx,e⟩:=List.mem_map.1 hm
  exact hno x hx e
 ·rcases nmPut_mem.1 hx with rfl | ⟨hx,_⟩
  ·exact hf
  ·exact h.lt x hx
 ·rcases nmPut_mem.1 hx with rfl | ⟨hx,_⟩
  ·exact hn
  ·exact h.named x hx
 ·rw [hp.length_eq,List.length_cons];omega
theorem nm_id {N:NmL} (h:(N.map (·.2)).Nodup) {a b:ByteArray} {f:Nat} (h1:(a,f)∈N) (h2:(b,f)∈N):a=b:=by
 induction N with
 | nil=>simp at h1
 | cons x r ih=>
  obtain⟨n1,n2⟩:=List.nodup_cons.1 h
  rcases List.mem_cons.1 h1 with e1 | h1
  ·rcases List.mem_cons.1 h2 with e2 | h2
   ·rw [← e1] at e2;cases e2;rfl
   ·exact absurd (List.mem_map_of_mem (f:=(·.2)) h2) (by rw [← e1] at n1;exact n1)
  ·rcases List.mem_cons.1 h2 with e2 | h2
   ·exact absurd (List.mem_map_of_mem (f:=(·.2)) h1) (by rw [← e2] at n1;exact n1)
   ·exact ih n2 h1 h2
theorem nmDel_lt {N:NmL} {n:ByteArray} {f:Nat} (h:nmAt N n=some f):(nmDel N n).length < N.length:=by
 have hm:=nmAt_mem h
 unfold nmDel
 refine Nat.lt_of_le_of_ne (List.length_filter_le _ _) (fun e=>?_)
 have:=List.length_filter_eq_length_iff.1 e (n,f) hm
 simp at this
theorem NmOk.ren {N:NmL} {k:Nat} (h:NmOk N k) {a b:ByteArray} {f:Nat} (ha:nmAt N a=some f) (hab:a≠b) (hb:namedB b=true):NmOk (nmDo N (.ren a b)) k:=by
 have hm:=nmAt_mem ha
 have e:nmDo N (.ren a b)=nmDel (nmPut N b f) a:=by simp [nmDo,ha]
 rw [e]
 have hdp:(nmDel (nmPut N b f) a).Perm ((b,f)::nmDel (nmDel N b) a):=by
  have:=(nmPut_perm N b f).filter (fun x=>decide (x.1≠a))
  unfold nmDel at this ⊢
  rwa [List.filter_cons,if_pos (by simpa using fun h=>hab h.symm)] at this
 have hl:(nmDel (nmDel N b) a).length < N.length:=by
  have h1:nmAt (nmDel N b) a=some f:=by rw [nmAt_del h.row,if_neg hab];exact ha
  have:=nmDel_lt h1
  have:=nmDel_len N b
  omega
 refine⟨nmDel_row (nmPut_row h.row b f) a,?_,fun x hx=>?_,fun x hx=>?_,?_⟩
 ·refine (hdp.map (·.2)).nodup_iff.2 (List.nodup_cons.2 ⟨fun hm2=>?_,nmDel_ids (nmDel_ids h.ids b) a⟩)
  obtain⟨x,hx,e2⟩:=List.mem_map.1 hm2
  obtain⟨hx,hxa⟩:=nmDel_mem.1 hx
  obtain⟨hx,_⟩:=nmDel_mem.1 hx
  simp only at e2
  exact hxa (nm_id h.ids (by rw [← e2];exact hx) hm)
 ·rcases nmPut_mem.1 (nmDel_mem.1 hx).1 with rfl | ⟨hx,_⟩
  ·exact h.lt (a,f) hm
  ·exact h.lt x hx
 ·rcases nmPut_mem.1 (nmDel_mem.1 hx).1 with rfl | ⟨hx,_⟩
  ·exact hb
  ·exact h.named x hx
 ·rw [hdp.length_eq,List.length_cons];have:=h.few;omega
theorem dTick_ok {d:DiskD} (h:DiskOk d):DiskOk (dTick d):=
 ⟨h.quota,h.file,h.hist,Nat.le_succ_of_le h.chops,Nat.le_succ_of_le h.fops,by have:=h.fail;show d.fail - 1≤_;omega,h.rems⟩
theorem hist_files {N M:NmL} {l:List ChgD} {k:Nat} (h:Hist N l M k):NmOk N k:=by
 cases l with
 | nil=>exact h.2
 | cons c r=>exact h.1
theorem DiskOk.now {d:DiskD} (h:DiskOk d):NmOk d.now d.files.length:=(hist_last h.hist).1
theorem DiskOk.sure' {d:DiskD} (h:DiskOk d):NmOk d.sure d.files.length:=hist_files h.hist
theorem DiskOk.at {d:DiskD} (h:DiskOk d) {n:ByteArray} {i:Nat} (e:nmAt d.now n=some i):i < d.files.length:=h.now.lt _ (nmAt_mem e)
theorem set_default {l:List FileD} {i:Nat} (hi:i < l.length) (x:FileD) (j:Nat):(l.set i x).getD j default=if j=i then x else l.getD j default:=by
 simp only [List.getD_eq_getElem?_getD]
 rw [List.getElem?_set]
 by_cases e:i=j
 ·subst e;simp [hi]
 ·rw [if_neg e,if_neg (fun e2=>e e2.symm)]
theorem getD_mem {l:List FileD} {i:Nat} (hi:i < l.length):l.getD i default∈l:=by
 rw [List.getD_eq_getElem?_getD,List.getElem?_eq_getElem hi];simp
theorem dSetFile_ok {d:DiskD} (h:DiskOk d) {i:Nat} {x:FileD} (hx:x.b.length≤1048576∧x.sure≤x.b.length):DiskOk (dSet d i x):=by
 refine⟨h.quota,fun f hf=>?_,by simpa [dSet] using h.hist,h.chops,by simpa [dSet] using h.fops,h.fail,h.rems⟩
 rcases List.mem_or_eq_of_mem_set hf with hf | rfl
 ·exact h.file f hf
 ·exact hx
theorem dChange_ok {d:DiskD} (h:DiskOk d) {c:ChgD} (hc:∀ a b,c=.ren a b→a≠b∧∃ f,nmAt d.now a=some f) (hok:NmOk (nmDo d.now c) d.files.length) (ho:d.ch.length+1≤d.ops) (hr:∀ n,c=.rem n→n.size≤16):DiskOk (dChange d c):=
 ⟨h.quota,h.file,hist_snoc h.hist (Nat.le_refl _) hc hok,by simpa [dChange] using ho,h.fops,h.fail,fun n hn=>by
  rcases List.mem_append.1 hn with hn | hn
  ·exact h.rems n hn
  ·simp at hn;exact hr n hn.symm⟩
theorem dAppend_cases (d:DiskD) (n:ByteArray) (b:List UInt8) :
  (∃ e,dAppend d n b=(dTick d,e)∧(e=8∨e=1∨e=7)) ∨
  (¬ dFails d∧namedB n=true∧dRoom d (nmAt d.now n) b.length=true ∧
   ((∃ i,nmAt d.now n=some i∧dAppend d n b=(dWrite (dTick d) i b,0)) ∨
     (nmAt d.now n=none∧dAppend d n b=(dWrite (dChange (dGrow (dTick d)) (.made n d.files.length)) d.files.length b,0)))):=by
 unfold dAppend
 by_cases h1:dFails d
 ·rw [if_pos h1];exact Or.inl ⟨8,rfl,by simp⟩
 ·rw [if_neg h1]
  by_cases h2:namedB n=false
  ·rw [if_pos h2];exact Or.inl ⟨1,rfl,by simp⟩
  ·rw [if_neg h2]
   by_cases h3:dRoom d (nmAt d.now n) b.length=false
   ·rw [if_pos h3];exact Or.inl ⟨7,rfl,by simp⟩
   ·rw [if_neg h3]
    refine Or.inr ⟨h1,by simpa using h2,by simpa using h3,?_⟩
    cases e:nmAt d.now n with
    | some i=>exact Or.inl ⟨i,rfl,rfl⟩
    | none=>exact Or.inr ⟨rfl,rfl⟩
theorem dSync_cases (d:DiskD) (n:ByteArray):(∃ e,dSync d n=(dTick d,e)∧(e=8∨e=6)) ∨
  (¬ dFails d∧∃ i,nmAt d.now n=some i∧dSync d n=(dSet (dTick d) i ⟨(d.files.getD i default).b,(d.files.getD i default).b.length⟩,0)):=by
 unfold dSync
 by_cases h1:dFails d
 ·rw [if_pos h1];exact Or.inl ⟨8,rfl,by simp⟩
 ·rw [if_neg h1]
  cases e:nmAt d.now n with
  | some i=>exact Or.inr ⟨h1,i,rfl,rfl⟩
  | none=>exact Or.inl ⟨6,rfl,by simp⟩
theorem dCut_cases (d:DiskD) (n:ByteArray) (k:Int):(∃ e,dCut d n k=(dTick d,e)∧(e=8∨e=6∨e=1)) ∨
  (¬ dFails d∧∃ i,nmAt d.now n=some i∧0≤k∧k≤flen d i∧dCut d n k=(dSet (dTick d) i ⟨(d.files.getD i default).b.take k.toNat,k.toNat⟩,0)):=by
 unfold dCut
 by_cases h1:dFails d
 ·rw [if_pos h1];exact Or.inl ⟨8,rfl,by simp⟩
 ·rw [if_neg h1]
  cases e:nmAt d.now n with
  | some i=>
   by_cases h2:k < 0∨(flen d i:Int) < k
   ·simp only;rw [if_pos h2];exact Or.inl ⟨1,rfl,by simp⟩
   ·simp only;rw [if_neg h2];exact Or.inr ⟨h1,i,rfl,by omega,by omega,rfl⟩
  | none=>exact Or.inl ⟨6,rfl,by simp⟩
theorem dRename_cases (d:DiskD) (a b:ByteArray):(∃ e,dRename d a b=(dTick d,e)∧(e=8∨e=6∨e=1)) ∨
  (¬ dFails d∧(∃ i,nmAt d.now a=some i)∧namedB b=true∧((a=b∧dRename d a b=(dTick d,0))∨(a≠b∧dRename d a b=(dChange (dTick d) (.ren a b),0)))):=by
 unfold dRename
 by_cases h1:dFails d
 ·rw [if_pos h1];exact Or.inl ⟨8,rfl,by simp⟩
 ·rw [if_neg h1]
  cases e:nmAt d.now a with
  | some i=>
   simp only
   by_cases h2:namedB b=false
   ·rw [if_pos h2];exact Or.inl ⟨1,rfl,by simp⟩
   ·rw [if_neg h2]
    refine Or.inr ⟨h1,⟨i,rfl⟩,by simpa using h2,?_⟩
    by_cases h3:a=b
    ·rw [if_pos h3];exact Or.inl ⟨h3,rfl⟩
    ·rw [if_neg h3];exact Or.inr ⟨h3,rfl⟩
  | none=>exact Or.inl ⟨6,rfl,by simp⟩
theorem dRemove_cases (d:DiskD) (n:ByteArray):(∃ e,dRemove d n=(dTick d,e)∧(e=8∨e=6)) ∨
  (¬ dFails d∧(∃ i,nmAt d.now n=some i)∧dRemove d n=(dChange (dTick d) (.rem n),0)):=by
 unfold dRemove
 by_cases h1:dFails d
 ·rw [if_pos h1];exact Or.inl ⟨8,rfl,by simp⟩
 ·rw [if_neg h1]
  cases e:nmAt d.now n with
  | some i=>exact Or.inr ⟨h1,⟨i,rfl⟩,rfl⟩
  | none=>exact Or.inl ⟨6,rfl,by simp⟩
theorem dSyncDir_cases (d:DiskD):dSyncDir d=(dTick d,8)∨(¬ dFails d∧dSyncDir d=(dFirm (dTick d),0)):=by
 unfold dSyncDir
 by_cases h1:dFails d
 ·rw [if_pos h1];exact Or.inl rfl
 ·rw [if_neg h1];exact Or.inr ⟨h1,rfl⟩
/-! A disk that may be stays one. -/
theorem dWrite_ok {d:DiskD} (h:DiskOk d) {i:Nat} (hi:i < d.files.length) {b:List UInt8} (hb:b.length+flen d i≤1048576):DiskOk (dWrite d i b):=by
 refine dSetFile_ok h ⟨?_,?_⟩
 ·simp only [List.length_append];unfold flen at hb;omega
 ·have:=(h.file _ (getD_mem hi)).2
  simp only [List.length_append];omega
theorem dRoom_iff {d:DiskD} {f:Option Nat} {n:Nat}:dRoom d f n=true↔(dSize d≤d.quota∧n+dSize d≤d.quota∧n+(match f with | some i=>flen d i | none=>0)≤1048576∧(f=none→d.now.length < 200)):=by
 unfold dRoom;exact decide_eq_true_iff
theorem nmDel_none {N:NmL} {n:ByteArray} (h:nmAt N n=none):nmDel N n=N:=
 List.filter_eq_self.2 (fun x hx=>by simpa using nmAt_none.1 h x hx)
theorem dAppend_ok {d:DiskD} (h:DiskOk d) (n:ByteArray) (b:List UInt8):DiskOk (dAppend d n b).1:=by
 rcases dAppend_cases d n b with ⟨e,h1,_⟩|⟨_,hn,hr,⟨i,h1,h2⟩|⟨h1,h2⟩⟩
 ·rw [h1];exact dTick_ok h
 ·rw [h2]
  rw [h1] at hr
  exact dWrite_ok (dTick_ok h) (h.at h1) (dRoom_iff.1 hr).2.2.1
 ·rw [h2]
  rw [h1] at hr
  have hr':=dRoom_iff.1 hr
  have hk:DiskOk (dGrow (dTick d)):=by
   refine⟨h.quota,fun f hf=>?_,hist_more h.hist (by simp [dGrow,dTick]),Nat.le_succ_of_le h.chops,by have:=h.fops;simp [dGrow,dTick];omega,(dTick_ok h).fail,h.rems⟩
   rcases List.mem_append.1 hf with hf | hf
   ·exact h.file f hf
   ·simp at hf;subst hf;simp
  have hkn:=hk.now
  refine dWrite_ok (dChange_ok hk (fun a b e=>by cases e) ?_ ?_ (fun n e=>by cases e)) (by simp [dChange,dGrow,dTick]) ?_
  ·show NmOk (nmPut d.now n d.files.length) _
   refine NmOk.put hkn (by simp [dGrow,dTick]) hn (fun x hx e=>?_) (by rw [show (dGrow (dTick d)).now=d.now from rfl,nmDel_none h1];exact hr'.2.2.2 rfl)
   have:=h.now.lt x (nmDel_mem.1 hx).1
   omega
  ·have:=h.chops;simp [dGrow,dTick];omega
  ·have:=hr'.2.2.1
   simp only [flen,dChange,dGrow,dTick,List.getD_eq_getElem?_getD]
   simpa using this
theorem dSync_ok {d:DiskD} (h:DiskOk d) (n:ByteArray):DiskOk (dSync d n).1:=by
 rcases dSync_cases d n with ⟨e,h1,_⟩|⟨_,i,h1,h2⟩
 ·rw [h1];exact dTick_ok h
 ·rw [h2];exact dSetFile_ok (dTick_ok h) ⟨(h.file _ (getD_mem (h.at h1))).1,Nat.le_refl _⟩
theorem dRename_ok {d:DiskD} (h:DiskOk d) (a b:ByteArray):DiskOk (dRename d a b).1:=by
 rcases dRename_cases d a b with ⟨e,h1,_⟩|⟨_,⟨i,h1⟩,hb,⟨h2,h3⟩|⟨h2,h3⟩⟩
 ·rw [h1];exact dTick_ok h
 ·rw [h3];exact dTick_ok h
 ·rw [h3]
  refine dChange_ok (dTick_ok h) (fun x y e=>by cases e;exact⟨h2,i,h1⟩) ?_ (Nat.succ_le_succ h.chops) (fun n e=>by cases e)
  exact h.now.ren h1 h2 hb
theorem dRemove_ok {d:DiskD} (h:DiskOk d) (n:ByteArray):DiskOk (dRemove d n).1:=by
 rcases dRemove_cases d n with ⟨e,h1,_⟩|⟨_,⟨i,h1⟩,h2⟩
 ·rw [h1];exact dTick_ok h
 ·rw [h2];exact dChange_ok (dTick_ok h) (fun x y e=>by cases e) (h.now.del n) (Nat.succ_le_succ h.chops) (fun m e=>by
   cases e
   have:=h.now.named _ (nmAt_mem h1)
   have h3:1≤n.size∧n.size≤16:=of_decide_eq_true this
   exact h3.2)
theorem dSyncDir_ok {d:DiskD} (h:DiskOk d):DiskOk (dSyncDir d).1:=by
 rcases dSyncDir_cases d with h1 | ⟨_,h2⟩
 ·rw [h1];exact dTick_ok h
 ·rw [h2];exact⟨h.quota,h.file,⟨rfl,h.now⟩,Nat.zero_le _,Nat.le_succ_of_le h.fops,(dTick_ok h).fail,fun n hn=>by simp [dFirm] at hn⟩
theorem dNew_ok (q:Int):DiskOk (dNew q):=by
 refine⟨by simp [dNew];omega,fun f hf=>by simp [dNew] at hf,⟨rfl,⟨List.Pairwise.nil,List.nodup_nil,by simp [dNew],by simp [dNew],by simp [dNew]⟩⟩,Nat.le_refl _,Nat.le_refl _,by simp [dNew],by simp [dNew]⟩
theorem dOps (d:DiskD) (n m:ByteArray) (b:List UInt8) (k:Int):(dAppend d n b).1.ops=d.ops+1∧(dSync d n).1.ops=d.ops+1∧(dCut d n k).1.ops=d.ops+1∧(dRename d n m).1.ops=d.ops+1∧(dRemove d n).1.ops=d.ops+1∧(dSyncDir d).1.ops=d.ops+1:=by
 refine⟨?_,?_,?_,?_,?_,?_⟩
 ·rcases dAppend_cases d n b with ⟨e,h1,_⟩|⟨_,_,_,⟨i,_,h2⟩|⟨_,h2⟩⟩ <;> simp_all [dTick,dWrite,dChange,dSet,dGrow]
 ·rcases dSync_cases d n with ⟨e,h1,_⟩|⟨_,i,h1,h2⟩ <;> simp_all [dTick,dSet]
 ·rcases dCut_cases d n k with ⟨e,h1,_⟩|⟨_,i,h1,_,_,h2⟩ <;> simp_all [dTick,dSet]
 ·rcases dRename_cases d n m with ⟨e,h1,_⟩|⟨_,_,_,⟨_,h2⟩|⟨_,h2⟩⟩ <;> simp_all [dTick,dChange]
 ·rcases dRemove_cases d n with ⟨e,h1,_⟩|⟨_,_,h2⟩ <;> simp_all [dTick,dChange]
 ·rcases dSyncDir_cases d with h1 | ⟨_,h2⟩ <;> simp_all [dTick,dFirm]
/-! What an operation on other names leaves. -/
def agree (K:ByteArray→Prop) (N M:NmL):Prop:=∀ n,K n→nmAt N n=nmAt M n
def statesD (d:DiskD) (N:NmL):Prop:=∃ j,j≤d.ch.length∧N=(d.ch.take j).foldl nmDo d.sure
structure Other (K:ByteArray→Prop) (d d':DiskD):Prop where
 names:agree K d'.now d.now
 files:∀ n i,K n→nmAt d.now n=some i→d'.files.getD i default=d.files.getD i default
 states:∀ N,statesD d' N→statesD d N∨agree K N d.now
theorem Other.refl (K:ByteArray→Prop) (d:DiskD):Other K d d:=⟨fun _ _=>rfl,fun _ _ _ _=>rfl,fun N h=>Or.inl h⟩
theorem Other.trans {K:ByteArray→Prop} {a b c:DiskD} (h1:Other K a b) (h2:Other K b c):Other K a c:=by
 refine⟨fun n hn=>(h2.names n hn).trans (h1.names n hn),fun n i hn hi=>?_,fun N hN=>?_⟩
 ·rw [h2.files n i hn (by rw [h1.names n hn];exact hi),h1.files n i hn hi]
 ·rcases h2.states N hN with h | h
  ·exact h1.states N h
  ·exact Or.inr (fun n hn=>(h n hn).trans (h1.names n hn))
theorem Other.same {K:ByteArray→Prop} {d d':DiskD} (h1:d'.now=d.now) (h2:d'.files=d.files) (h3:d'.ch=d.ch) (h4:d'.sure=d.sure):Other K d d':=
 ⟨fun _ _=>by rw [h1],fun _ _ _ _=>by rw [h2],fun N hN=>Or.inl (by unfold statesD at *;rwa [h3,h4] at hN)⟩
theorem Other.tick (K:ByteArray→Prop) (d:DiskD):Other K d (dTick d):=Other.same rfl rfl rfl rfl
theorem states_change {d:DiskD} (h:DiskOk d) {c:ChgD} {N:NmL} (hN:statesD (dChange d c) N):statesD d N∨N=nmDo d.now c:=by
 obtain⟨j,hj,rfl⟩:=hN
 simp only [dChange,List.length_append,List.length_cons,List.length_nil] at hj
 by_cases e:j≤d.ch.length
 ·exact Or.inl ⟨j,e,by simp only [dChange];rw [List.take_append_of_le_length e]⟩
 ·obtain rfl:j=d.ch.length+1:=by omega
  right
  simp only [dChange]
  rw [List.take_of_length_le (by simp),List.foldl_append,(hist_last h.hist).2]
  rfl
theorem Other.file {K:ByteArray→Prop} {d:DiskD} (h:DiskOk d) {n:ByteArray} (hn:¬ K n) {i:Nat} (hi:nmAt d.now n=some i) (x:FileD):Other K d (dSet d i x):=by
 refine⟨fun _ _=>rfl,fun m j hm hj=>?_,fun N hN=>Or.inl hN⟩
 show (d.files.set i x).getD j default=_
 rw [set_default (h.at hi)]
 split
 ·rename_i e;subst e
  have:=nm_id h.now.ids (nmAt_mem hi) (nmAt_mem hj)
  subst this;exact absurd hm hn
 ·rfl
theorem Other.change {K:ByteArray→Prop} {d:DiskD} (h:DiskOk d) {c:ChgD} (hc:agree K (nmDo d.now c) d.now):Other K d (dChange d c):=
 ⟨hc,fun _ _ _ _=>rfl,fun N hN=>by
  rcases states_change h hN with h1 | rfl
  ·exact Or.inl h1
  ·exact Or.inr hc⟩
theorem agree_put {K:ByteArray→Prop} {N:NmL} (h:NmRow N) {n:ByteArray} (hn:¬ K n) (f:Nat):agree K (nmPut N n f) N:=fun m hm=>by
 rw [nmAt_put h,if_neg (fun e=>hn (by rw [← e];exact hm))]
theorem agree_del {K:ByteArray→Prop} {N:NmL} (h:NmRow N) {n:ByteArray} (hn:¬ K n):agree K (nmDel N n) N:=fun m hm=>by
 rw [nmAt_del h,if_neg (fun e=>hn (by rw [← e];exact hm))]
theorem Other.append {K:ByteArray→Prop} {d:DiskD} (h:DiskOk d) {n:ByteArray} (hn:¬ K n) (b:List UInt8):Other K d (dAppend d n b).1:=by
 rcases dAppend_cases d n b with ⟨e,h1,_⟩|⟨_,hnm,hr,⟨i,h1,h2⟩|⟨h1,h2⟩⟩
 ·rw [h1];exact Other.tick K d
 ·rw [h2];exact (Other.tick K d).trans (Other.file (dTick_ok h) hn h1 _)
 ·rw [h2]
  have g:Other K d (dChange (dGrow (dTick d)) (.made n d.files.length)):=by
   refine⟨agree_put h.now.row hn _,fun m j hm hj=>?_,fun N hN=>?_⟩
   ·have:=h.at hj
    simp only [dChange,dGrow,dTick,List.getD_eq_getElem?_getD]
    rw [List.getElem?_append_left this]
   ·obtain⟨j,hj,rfl⟩:=hN
    simp only [dChange,dGrow,dTick,List.length_append,List.length_cons,List.length_nil] at hj
    by_cases e:j≤d.ch.length
    ·exact Or.inl ⟨j,e,by simp only [dChange,dGrow,dTick];rw [List.take_append_of_le_length e]⟩
    ·obtain rfl:j=d.ch.length+1:=by omega
     right
     simp only [dChange,dGrow,dTick]
     rw [List.take_of_length_le (by simp),List.foldl_append,(hist_last h.hist).2]
     exact agree_put h.now.row hn _
  refine g.trans ⟨fun _ _=>rfl,fun m j hm hj=>?_,fun N hN=>Or.inl hN⟩
  simp only [dWrite,dSet]
  rw [set_default (by simp [dChange,dGrow,dTick])]
  split
  ·rename_i e;subst e
   rw [g.names m hm] at hj
   have:=h.at hj;omega
  ·rfl
theorem Other.sync {K:ByteArray→Prop} {d:DiskD} (h:DiskOk d) {n:ByteArray} (hn:¬ K n):Other K d (dSync d n).1:=by
 rcases dSync_cases d n with ⟨e,h1,_⟩|⟨_,i,h1,h2⟩
 ·rw [h1];exact Other.tick K d
 ·rw [h2];exact (Other.tick K d).trans (Other.file (dTick_ok h) hn h1 _)
theorem Other.remove {K:ByteArray→Prop} {d:DiskD} (h:DiskOk d) {n:ByteArray} (hn:¬ K n):Other K d (dRemove d n).1:=by
 rcases dRemove_cases d n with ⟨e,h1,_⟩|⟨_,⟨i,h1⟩,h2⟩
 ·rw [h1];exact Other.tick K d
 ·rw [h2];exact (Other.tick K d).trans (Other.change (dTick_ok h) (agree_del h.now.row hn))
section
variable {α:Type} {P:Program} {kt:TypeId} {ek ev:α→Value}
def tabR (ek ev:α→Value) (L:List α) (k v:Value):Prop:=∃ x∈L,k=ek x∧v=ev x
def TabA (P:Program) (kt:TypeId) (ek ev:α→Value) (b:Nat) (L:List α):Asrt:=fun w F=>F=[b]∧MapR P kt w b (tabR ek ev L) L.length
theorem TabA.framed (b:Nat) (L:List α):Framed (TabA P kt ek ev b L):=
 ⟨fun h hk=>⟨h.1,h.2.keep (hk b (by rw [h.1];simp))⟩,fun h b' hb=>by rw [h.1] at hb;simp at hb;subst hb;exact h.2.lt⟩
theorem TabA.perm {b:Nat} {L L':List α} {w:World} {F:List Nat} (h:TabA P kt ek ev b L w F) (hp:L'.Perm L):TabA P kt ek ev b L' w F:=
 ⟨h.1,by rw [hp.length_eq];exact h.2.congr (fun k v=>⟨fun ⟨x,hx,e⟩=>⟨x,hp.mem_iff.1 hx,e⟩,fun ⟨x,hx,e⟩=>⟨x,hp.mem_iff.2 hx,e⟩⟩)⟩
theorem strike_length {p:α→Bool} {key:Value}:∀ {L:List α},(L.map ek).Nodup→(∀ x∈L,p x=true↔ek x≠key) →
  ((∃ x∈L,ek x=key)→(L.filter p).length+1=L.length)∧((∀ x∈L,ek x≠key)→L.filter p=L)
 | [],_,_=>⟨fun ⟨x,hx,_⟩=>by simp at hx,fun _=>rfl⟩
 | y::r,hn,hp=>by
  obtain⟨n1,n2⟩:=List.nodup_cons.1 hn
  obtain⟨i1,i2⟩:=strike_length n2 (fun x hx=>hp x (List.mem_cons_of_mem _ hx))
  have hy:=hp y (by simp)
  constructor
  ·rintro ⟨x,hx,e⟩
   by_cases hye:ek y=key
   ·have:p y=false:=by
     cases h:p y with
     | false=>rfl
     | true=>exact absurd hye (hy.1 h)
    have hr:r.filter p=r:=i2 (fun z hz e2=>n1 (by rw [hye,← e2];exact List.mem_map_of_mem hz))
    rw [List.filter_cons,if_neg (by simp [this]),hr];rfl
   ·have:p y=true:=hy.2 hye
    have hx':x∈r:=by
     rcases List.mem_cons.1 hx with rfl | hx
     ·exact absurd e hye
     ·exact hx
    rw [List.filter_cons,if_pos this,List.length_cons,List.length_cons,i1 ⟨x,hx',e⟩]
  ·intro h
   rw [List.filter_cons,if_pos (hy.2 (h y (by simp))),i2 (fun x hx=>h x (List.mem_cons_of_mem _ hx))]
variable {F0:List Nat} {w0 w:World} {R:List Asrt} {b:Nat} {L:List α} {mt et:TypeId} {key:Value} {kl:Lit}
theorem tab_look (h:In F0 w0 w R) (i:Nat) (hA:R[i]?=some (TabA P kt ek ev b L)) (K:Keyed P kt) (hmt:P.underlying mt=some (.map kt et)) {z:Value} (hz:(zeroValue et).run P w=.ok z w) (hkey:keyOf P kt key=some kl) (c:Bool) :
  (∃ x∈L,ek x=key∧(Instr.lookup mt (.map (some b)) key c).run P w=.ok (if c then .tuple #[ev x,.bool true] else ev x) w) ∨
  ((∀ x∈L,ek x≠key)∧(Instr.lookup mt (.map (some b)) key c).run P w=.ok (if c then .tuple #[z,.bool false] else z) w):=by
 obtain⟨F,_,hm⟩:=h.get i hA
 rcases hm.look K hmt hz hkey c with ⟨v,⟨x,hx,e1,rfl⟩,hr⟩|⟨hn,hr⟩
 ·exact Or.inl ⟨x,hx,e1.symm,hr⟩
 ·exact Or.inr ⟨fun x hx e=>hn (ev x) ⟨x,hx,e.symm,rfl⟩,hr⟩
theorem tab_put (h:In F0 w0 w R) (i:Nat) (hA:R[i]?=some (TabA P kt ek ev b L)) (K:Keyed P kt) (hmt:P.underlying mt=some (.map kt et)) (y:α) (hkey:keyOf P kt (ek y)=some kl) (hn:(L.map ek).Nodup) (p:α→Bool) (hp:∀ x∈L,p x=true↔ek x≠ek y) :
  ∃ w',(Instr.mapUpdate mt (.map (some b)) (ek y) (ev y)).run P w=.ok () w'∧Turn b w w'∧In F0 w0 w' (R.set i (TabA P kt ek ev b (y::L.filter p))):=by
 obtain⟨F,_,hm⟩:=h.get i hA
 obtain⟨w',hr,ht,hc⟩:=hm.put K hmt (val:=ev y) hkey
 obtain⟨s1,s2⟩:=strike_length hn hp
 have hR:∀ k v,tabR ek ev (y::L.filter p) k v↔(k=ek y∧v=ev y)∨(k≠ek y∧tabR ek ev L k v):=by
  intro k v
  constructor
  ·rintro ⟨x,hx,rfl,rfl⟩
   rcases List.mem_cons.1 hx with rfl | hx
   ·exact Or.inl ⟨rfl,rfl⟩
   ·obtain⟨hx,hpx⟩:=List.mem_filter.1 hx
    exact Or.inr ⟨(hp x hx).1 hpx,x,hx,rfl,rfl⟩
  ·rintro (⟨rfl,rfl⟩|⟨hne,x,hx,rfl,rfl⟩)
   ·exact⟨y,by simp,rfl,rfl⟩
   ·exact⟨x,List.mem_cons_of_mem _ (List.mem_filter.2 ⟨hx,(hp x hx).2 hne⟩),rfl,rfl⟩
 refine⟨w',hr,ht,h.step i hA (TabA.framed _ _) fun F hF=>⟨F,⟨hF.1,?_⟩,Grew.refl _ _,?_⟩⟩
 ·rcases hc with ⟨⟨v,x,hx,e,_⟩,hc⟩|⟨hno,hc⟩
  ·rw [List.length_cons,s1 ⟨x,hx,e.symm⟩]
   exact hc.congr hR
  ·have:L.filter p=L:=s2 (fun x hx e=>hno (ev x) ⟨x,hx,e.symm,rfl⟩)
   rw [this] at hR ⊢
   exact hc.congr hR
 ·rw [hF.1];exact ht.mod
theorem tab_del (h:In F0 w0 w R) (i:Nat) (hA:R[i]?=some (TabA P kt ek ev b L)) (K:Keyed P kt) (hmt:P.underlying mt=some (.map kt et)) (hkey:keyOf P kt key=some kl) (hn:(L.map ek).Nodup) (p:α→Bool) (hp:∀ x∈L,p x=true↔ek x≠key) (k2 ty:TypeId) :
  ∃ w',(Builtin.delete_ #[mt,k2] ty #[.map (some b),key]).run P w=.ok (.tuple #[]) w'∧Turn b w w'∧In F0 w0 w' (R.set i (TabA P kt ek ev b (L.filter p))):=by
 obtain⟨F,_,hm⟩:=h.get i hA
 obtain⟨w',hr,ht,hc⟩:=hm.del K hmt hkey k2 ty
 obtain⟨s1,s2⟩:=strike_length hn hp
 have hR:∀ k v,tabR ek ev (L.filter p) k v↔(k≠key∧tabR ek ev L k v):=by
  intro k v
  constructor
  ·rintro ⟨x,hx,rfl,rfl⟩
   obtain⟨hx,hpx⟩:=List.mem_filter.1 hx
   exact⟨(hp x hx).1 hpx,x,hx,rfl,rfl⟩
  ·rintro ⟨hne,x,hx,rfl,rfl⟩
   exact⟨x,List.mem_filter.2 ⟨hx,(hp x hx).2 hne⟩,rfl,rfl⟩
 refine⟨w',hr,ht,h.step i hA (TabA.framed _ _) fun F hF=>⟨F,⟨hF.1,?_⟩,Grew.refl _ _,?_⟩⟩
 ·rcases hc with ⟨⟨v,x,hx,e,_⟩,hc,_⟩|⟨hno,hc⟩
  ·have e2:=s1 ⟨x,hx,e.symm⟩
   have e3:(L.filter p).length=L.length - 1:=by omega
   rw [e3]
   exact hc.congr hR
  ·have:L.filter p=L:=s2 (fun x hx e=>hno (ev x) ⟨x,hx,e.symm,rfl⟩)
   rw [this] at hR ⊢
   exact hc.congr hR
 ·rw [hF.1];exact ht.mod
theorem tab_len (h:In F0 w0 w R) (i:Nat) (hA:R[i]?=some (TabA P kt ek ev b L)) (hmt:P.underlying mt=some (.map kt et)) (ty:TypeId):(Builtin.len_ #[mt] ty #[.map (some b)]).run P w=.ok (.int .i64 L.length) w:=by
 obtain⟨F,_,hm⟩:=h.get i hA
 exact hm.len hmt ty
theorem tab_make (h:In F0 w0 w R) (P:Program) (kt:TypeId) (ek ev:α→Value):In F0 w0 (w.alloc (.map #[] 0)) (TabA P kt ek ev w.heap.size []::R):=by
 obtain⟨F,hs,hF⟩:=h.star
 have fr:=Framed.star h.framed
 refine⟨fun B hB=>?_,⟨[w.heap.size]++F,⟨[w.heap.size],F,⟨rfl,(map_made P kt w).congr (fun k v=>by simp [tabR])⟩,fr.keep hs (fun b hb=>hp_alloc_old (fr.lt hs b hb)),?_,rfl⟩,?_⟩,h.mod.alloc _⟩
 ·rcases List.mem_cons.1 hB with rfl | hB
  ·exact TabA.framed _ _
  ·exact h.framed B hB
 ·intro b hb hbF
  simp at hb;subst hb
  exact absurd (fr.lt hs _ hbF) (by omega)
 ·intro b hb
  simp at hb
  rcases hb with rfl | hb
  ·exact Or.inr h.mod.size
  ·exact hF b hb
theorem tab_perm (h:In F0 w0 w R) (i:Nat) (hA:R[i]?=some (TabA P kt ek ev b L)) {L':List α} (hp:L'.Perm L):In F0 w0 w (R.set i (TabA P kt ek ev b L')):=
 h.imp i hA (TabA.framed _ _) fun F hF=>hF.perm hp
end
section
variable {α:Type} {P:Program} {kt:TypeId} {ek ev:α→Value}
structure IterW (P:Program) (kt:TypeId) (ek ev:α→Value) (b r:Nat) (L done:List α) (w:World):Prop where
 map:MapR P kt w b (tabR ek ev L) L.length
 keys:(L.map ek).Nodup
 sub:∀ y∈done,y∈L
 once:done.Nodup
 it:∃ es clock since seen c0,w.heap[b]?=some (.map es clock)∧w.heap[r]?=some (.mapIter (some b) since seen c0)∧Stamped es clock∧(∀ x∈es.toList,x.born < since)∧since≤c0∧since≤clock ∧
  (∀ x∈es.toList,∀ y∈L,x.key=ek y→(seen.contains x.born=true↔y∈done))
theorem tab_val {b:Nat} {L:List α} {w:World} (h:MapR P kt w b (tabR ek ev L) L.length):∃ es clock,w.heap[b]?=some (.map es clock)∧Stamped es clock∧(∀ x∈es.toList,∃ y∈L,x.key=ek y∧x.val=ev y)∧(∀ y∈L,∃ x∈es.toList,x.key=ek y∧x.val=ev y)∧es.size=L.length:=by
 obtain⟨es,clock,h1,h2,h3,h4,h5⟩:=h.ex
 refine⟨es,clock,h1,h2,fun x hx=>?_,fun y hy=>?_,h5⟩
 ·obtain⟨i,hi,rfl⟩:=List.mem_iff_getElem.1 hx
  obtain⟨y,hy,e1,e2⟩:=(h4 es[i].key es[i].val).2 ⟨i,es[i],by simp at hi ⊢,rfl,rfl⟩
  exact⟨y,hy,e1,e2⟩
 ·obtain⟨i,x,hx,e1,e2⟩:=(h4 (ek y) (ev y)).1 ⟨y,hy,rfl,rfl⟩
  exact⟨x,by rw [Array.mem_toList_iff];exact Array.mem_of_getElem? hx,e1,e2⟩
theorem ek_inj {L:List α} (hk:(L.map ek).Nodup) {x y:α} (hx:x∈L) (hy:y∈L) (h:ek x=ek y):x=y:=by
 obtain⟨i,hi,rfl⟩:=List.mem_iff_getElem.1 hx
 obtain⟨j,hj,rfl⟩:=List.mem_iff_getElem.1 hy
 have:(L.map ek)[i]?=(L.map ek)[j]?:=by simp [hi,hj,h]
 have:=(List.getElem?_inj (by simpa using hi) hk).1 this
 subst this;rfl
theorem IterW.keep {b r:Nat} {L done:List α} {w w':World} (h:IterW P kt ek ev b r L done w) (h1:w'.heap[b]?=w.heap[b]?) (h2:w'.heap[r]?=w.heap[r]?):IterW P kt ek ev b r L done w':=by
 obtain⟨m,k,s,o,es,clock,since,seen,c0,e1,e2,e3⟩:=h
 exact⟨m.keep h1,k,s,o,es,clock,since,seen,c0,h1.trans e1,h2.trans e2,e3⟩
theorem IterW.of_walks {b r:Nat} {L done:List α} {w w':World} (h:IterW P kt ek ev b r L done w) (hk:KeepsWalks w w'):IterW P kt ek ev b r L done w'∧w'.rangeLeft b r=w.rangeLeft b r:=by
 obtain⟨es,clock,since,seen,c0,e1,e2,e3⟩:=h.it
 have h1:=hk.same b _ e1 rfl
 have h2:=hk.same r _ e2 rfl
 exact⟨h.keep (h1.trans e1.symm) (h2.trans e2.symm),by simp only [World.rangeLeft,e1,e2,h1,h2]⟩
theorem IterW.walk {b r:Nat} {L done:List α} {w:World} (h:IterW P kt ek ev b r L done w):∃ o:Obj,w.heap[r]?=some o∧o.isWalk=true:=by
 obtain⟨es,clock,since,seen,c0,e1,e2,e3⟩:=h.it
 exact⟨_,e2,rfl⟩
theorem IterW.lt {b r:Nat} {L done:List α} {w:World} (h:IterW P kt ek ev b r L done w):b < w.heap.size∧r < w.heap.size∧r≠b:=by
 obtain⟨m,k,s,o,es,clock,since,seen,c0,e1,e2,e3⟩:=h
 refine⟨hp_lt e1,hp_lt e2,?_⟩
 rintro rfl;rw [e1] at e2;cases e2
theorem iter_range {b:Nat} {L:List α} {w:World} (h:MapR P kt w b (tabR ek ev L) L.length) (hk:(L.map ek).Nodup) {t et:TypeId} (ht:P.underlying t=some (.map kt et)) :
  ∃ o,(Instr.range t (.map (some b))).run P w=.ok (.pointer (some ⟨w.heap.size,0,none⟩)) (w.alloc o)∧IterW P kt ek ev b w.heap.size L [] (w.alloc o):=by
 obtain⟨es,clock,e1,e2,e3,e4,e5⟩:=tab_val h
 refine⟨.mapIter (some b) clock #[] clock,run_range_map w t kt et b es clock ht e1,h.keep (hp_alloc_old (hp_lt e1)),hk,by simp,by simp,es,clock,clock,#[],clock,(hp_alloc_old (hp_lt e1)).trans e1,hp_alloc_new,e2,e2.1,Nat.le_refl _,Nat.le_refl _,fun x _ y _ _=>by simp⟩
theorem iter_next [DecidableEq α] {b r:Nat} {L done:List α} {w:World} (h:IterW P kt ek ev b r L done w) (ty:TypeId) :
  (done.Perm L∧(Instr.next (.pointer (some ⟨r,0,none⟩)) false ty).run P w=.ok (.tuple #[.bool false]) w) ∨
  ∃ y∈L,y ∉ done∧∃ w',(Instr.next (.pointer (some ⟨r,0,none⟩)) false ty).run P w=.ok (.tuple #[.bool true,ek y,ev y]) w'∧IterW P kt ek ev b r L (done++[y]) w'∧w.grownBy w' (some r)∧w'.heap.size=w.heap.size∧w'.rangeLeft b r < w.rangeLeft b r ∧
   (Instr.entry (.pointer (some ⟨r,0,none⟩))).run P w'=.ok (.tuple #[ek y,ev y]) w':=by
 have hlt:=h.lt
 obtain⟨m,hk,hsub,hon,es,clock,since,seen,c0,hb,hr,hst,hold,hsc,hsk,hseen⟩:=h
 obtain⟨es',clock',hb',_,e3,e4,_⟩:=tab_val m
 rw [hb] at hb';cases hb'
 have hst':=(stamped_iff es clock).1 hst
 rcases run_next_at (P:=P) w ty r b since c0 seen es clock hr hb hold hsc with ⟨h0,hrun⟩|⟨e,he,w1,hal,hrun⟩
 ·refine Or.inl ⟨(List.perm_ext_iff_of_nodup hon (List.Pairwise.of_map ek (fun a b (h:ek a≠ek b)=>fun e=>h (by rw [e])) hk)).2 (fun y=>⟨hsub y,fun hy=>?_⟩),hrun⟩
  obtain⟨x,hx,ex,_⟩:=e4 y hy
  exact (hseen x hx y hy ex).1 (all_seen es seen h0 x hx)
 ·obtain⟨hem,hes⟩:=mem_left he
  obtain⟨y,hy,ey,ev'⟩:=e3 e hem
  have hyd:y ∉ done:=fun hd=>by
   have:=(hseen e hem y hy ey).2 hd
   rw [hes] at this;cases this
  have hr1:w1.heap[r]?=some (.mapIter (some b) since seen c0):=by rcases hal with rfl | rfl <;> exact hr
  have hb1:w1.heap[b]?=some (.map es clock):=by rcases hal with rfl | rfl <;> exact hb
  have hset:=heap_set (o':=.mapIter (some b) since (seen.push e.born) clock) hr1
  have hbn:(setBlock w1 r (.mapIter (some b) since (seen.push e.born) clock)).heap[b]?=some (.map es clock):=(hset.2 b (fun e1=>hlt.2.2 e1.symm)).trans hb1
  refine Or.inr ⟨y,hy,hyd,setBlock w1 r (.mapIter (some b) since (seen.push e.born) clock),by rw [← ey,← ev'];exact hrun,⟨m.keep (hbn.trans hb.symm),hk,?_,?_,es,clock,since,seen.push e.born,clock,hbn,hset.1,hst,hold,hsk,hsk,?_⟩,?_,?_,?_,?_⟩
  ·intro z hz
   rcases List.mem_append.1 hz with hz | hz
   ·exact hsub z hz
   ·simp at hz;subst hz;exact hy
  ·exact List.nodup_append.2 ⟨hon,by simp,fun a ha c hc=>by simp at hc;subst hc;exact fun e=>hyd (e ▸ ha)⟩
  ·intro x hx z hz ez
   rw [contains_push]
   have hzz:=hseen x hx z hz ez
   have hbe:(x.born == e.born)=true↔z=y:=by
    rw [beq_iff_eq]
    constructor
    ·intro hbn'
     have:x=e:=born_inj hst'.2.1 hx hem hbn'
     subst this
     exact ek_inj hk hz hy (ez.symm.trans ey)
    ·rintro rfl
     have:x=e:=entry_eq_of_key hst'.2.2 hx hem (ez.trans ey.symm)
     rw [this]
   simp only [Bool.or_eq_true,List.mem_append,List.mem_singleton]
   rw [hzz,hbe]
  ·rcases hal with rfl | rfl <;> exact⟨rfl,rfl,rfl,by simp [setBlock],fun i _ hi=>hset.2 i (fun e1=>hi (by rw [e1]))⟩
  ·rcases hal with rfl | rfl <;> simp [setBlock]
  ·unfold World.rangeLeft
   have h9:(setBlock w1 r (.mapIter (some b) since (seen.push e.born) clock)).heap[r]?=some (.mapIter (some b) since (seen.push e.born) clock):=hset.1
   rw [hbn,h9,hb,hr]
   exact left_shrinks es seen e he
  ·rw [← ey,← ev']
   exact run_entry_at _ r b since seen es clock e hset.1 hbn hem hst'.2.1
def IterA (P:Program) (kt:TypeId) (ek ev:α→Value) (b r:Nat) (L done:List α):Asrt:=fun w F=>F=[b,r]∧IterW P kt ek ev b r L done w
theorem IterA.framed (b r:Nat) (L done:List α):Framed (IterA P kt ek ev b r L done):=
 ⟨fun h hk=>⟨h.1,h.2.keep (hk b (by rw [h.1];simp)) (hk r (by rw [h.1];simp))⟩,fun h b' hb=>by
  rw [h.1] at hb;simp at hb
  rcases hb with rfl | rfl
  ·exact h.2.lt.1
  ·exact h.2.lt.2.1⟩
variable {F0:List Nat} {w0 w:World} {R:List Asrt} {b r:Nat} {L done:List α} {t et:TypeId}
theorem tab_range (h:In F0 w0 w R) (i:Nat) (hA:R[i]?=some (TabA P kt ek ev b L)) (hk:(L.map ek).Nodup) (ht:P.underlying t=some (.map kt et)) :
  ∃ o,(Instr.range t (.map (some b))).run P w=.ok (.pointer (some ⟨w.heap.size,0,none⟩)) (w.alloc o)∧In F0 w0 (w.alloc o) (R.set i (IterA P kt ek ev b w.heap.size L [])):=by
 obtain⟨F,hF,hm⟩:=h.get i hA
 obtain⟨o,h1,h2⟩:=iter_range hm hk ht
 refine⟨o,h1,h.step i hA (IterA.framed _ _ _ _) fun F hF=>⟨[b,w.heap.size],⟨rfl,h2⟩,fun x hx=>?_,(Mod.refl F w).alloc o⟩⟩
 simp at hx
 rcases hx with rfl | rfl
 ·left;rw [hF.1];simp
 ·right;exact Nat.le_refl _
theorem tab_next [DecidableEq α] (h:In F0 w0 w R) (i:Nat) (hA:R[i]?=some (IterA P kt ek ev b r L done)) (ty:TypeId) :
  (done.Perm L∧(Instr.next (.pointer (some ⟨r,0,none⟩)) false ty).run P w=.ok (.tuple #[.bool false]) w) ∨
  ∃ y∈L,y ∉ done∧∃ w',(Instr.next (.pointer (some ⟨r,0,none⟩)) false ty).run P w=.ok (.tuple #[.bool true,ek y,ev y]) w'∧In F0 w0 w' (R.set i (IterA P kt ek ev b r L (done++[y])))∧w'.rangeLeft b r < w.rangeLeft b r ∧
   (Instr.entry (.pointer (some ⟨r,0,none⟩))).run P w'=.ok (.tuple #[ek y,ev y]) w':=by
 obtain⟨F,hF,hm⟩:=h.get i hA
 rcases iter_next hm ty with ⟨h1,h2⟩|⟨y,hy,hyd,w',h1,h2,h3,h4,hl,h5⟩
 ·exact Or.inl ⟨h1,h2⟩
 ·refine Or.inr ⟨y,hy,hyd,w',h1,h.step i hA (IterA.framed _ _ _ _) fun F hF=>⟨F,⟨hF.1,h2⟩,Grew.refl _ _,(Mod.refl F w).of_grown h3 (fun k e=>Or.inl (by cases e;rw [hF.1];simp))⟩,hl,h5⟩
theorem tab_done (h:In F0 w0 w R) (i:Nat) (hA:R[i]?=some (IterA P kt ek ev b r L done)):In F0 w0 w (R.set i (TabA P kt ek ev b L)):=
 h.step i hA (TabA.framed _ _) fun F hF=>⟨[b],⟨rfl,hF.2.map⟩,fun x hx=>by simp at hx;subst hx;left;rw [hF.1];simp,Mod.refl _ _⟩
end
end Go.Proofs.YtaopfagclnocdaaGreat
