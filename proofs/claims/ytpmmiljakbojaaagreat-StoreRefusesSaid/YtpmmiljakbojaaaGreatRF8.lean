/- Rows.StoreRefusesSaid -/
import Derived.Test.YtpmmiljakbojaaaGreatRF1
import Derived.Test.YtpmmiljakbojaaaGreatRF3
namespace Go.Proofs.YtpmmiljakbojaaaGreat
open Go.RowKit
set_option linter.unusedVariables false
set_option maxHeartbeats 64000000
set_option maxRecDepth 100000
structure FileD where
 b:List UInt8
 sure:Nat
deriving DecidableEq,Inhabited
inductive ChgD where
 | made (n:ByteArray) (f:Nat)
 | ren (a b:ByteArray)
 | rem (n:ByteArray)
deriving DecidableEq
abbrev NmL:=List (ByteArray×Nat)
structure DiskD where
 quota:Nat
 files:List FileD
 now:NmL
 sure:NmL
 ch:List ChgD
 ops:Nat
 fail:Nat
def nlt (a b:ByteArray):Bool:=bl a.data.toList b.data.toList
def nmAt (N:NmL) (n:ByteArray):Option Nat:=(N.find? (fun x=>decide (x.1=n))).map (·.2)
def nmDel (N:NmL) (n:ByteArray):NmL:=N.filter (fun x=>decide (x.1≠n))
def nmIns (n:ByteArray) (f:Nat):NmL→NmL
 | []=>[(n,f)]
 | x::r=>if nlt n x.1 then (n,f)::x::r else x::nmIns n f r
def nmPut (N:NmL) (n:ByteArray) (f:Nat):NmL:=nmIns n f (nmDel N n)
def nmDo (N:NmL):ChgD→NmL
 | .made n f=>nmPut N n f
 | .ren a b=>match nmAt N a with
  | some f=>nmDel (nmPut N b f) a
  | none=>N
 | .rem n=>nmDel N n
def namedB (n:ByteArray):Bool:=decide (1≤n.size∧n.size≤16)
def flen (d:DiskD) (i:Nat):Nat:=(d.files.getD i default).b.length
def dSize (d:DiskD):Nat:=(d.now.map (fun x=>flen d x.2)).sum
def dNew (quota:Int):DiskD:=⟨(max 0 (min quota 67108864)).toNat,[],[],[],[],0,0⟩
def dFail (d:DiskD) (n:Int):DiskD:={ d with fail:=if 1≤n∧n≤4611686018427387904 then n.toNat else 0 }
def dTick (d:DiskD):DiskD:=⟨d.quota,d.files,d.now,d.sure,d.ch,d.ops+1,d.fail - 1⟩
def dSet (d:DiskD) (i:Nat) (x:FileD):DiskD:=⟨d.quota,d.files.set i x,d.now,d.sure,d.ch,d.ops,d.fail⟩
def dGrow (d:DiskD):DiskD:=⟨d.quota,d.files++[⟨[],0⟩],d.now,d.sure,d.ch,d.ops,d.fail⟩
def dFails (d:DiskD):Prop:=d.fail=1
instance (d:DiskD):Decidable (dFails d):=inferInstanceAs (Decidable (d.fail=1))
def dFirm (d:DiskD):DiskD:=⟨d.quota,d.files,d.now,d.now,[],d.ops,d.fail⟩
def dChange (d:DiskD) (c:ChgD):DiskD:=⟨d.quota,d.files,nmDo d.now c,d.sure,d.ch++[c],d.ops,d.fail⟩
def dWrite (d:DiskD) (i:Nat) (b:List UInt8):DiskD:=dSet d i ⟨(d.files.getD i default).b++b,(d.files.getD i default).sure⟩
def dRoom (d:DiskD) (f:Option Nat) (n:Nat):Bool:=
 decide (dSize d≤d.quota∧n+dSize d≤d.quota∧n+(match f with | some i=>flen d i | none=>0)≤1048576∧(f=none→d.now.length < 200))
def dAppend (d:DiskD) (n:ByteArray) (b:List UInt8):DiskD×Int:=
 if dFails d then (dTick d,8) else
 if namedB n=false then (dTick d,1) else
 if dRoom d (nmAt d.now n) b.length=false then (dTick d,7) else
 match nmAt d.now n with
 | some i=>(dWrite (dTick d) i b,0)
 | none=>(dWrite (dChange (dGrow (dTick d)) (.made n d.files.length)) d.files.length b,0)
def dSync (d:DiskD) (n:ByteArray):DiskD×Int:=
 if dFails d then (dTick d,8) else
 match nmAt d.now n with
 | some i=>(dSet (dTick d) i ⟨(d.files.getD i default).b,(d.files.getD i default).b.length⟩,0)
 | none=>(dTick d,6)
def dCut (d:DiskD) (n:ByteArray) (k:Int):DiskD×Int:=
 if dFails d then (dTick d,8) else
 match nmAt d.now n with
 | some i=>if k < 0∨(flen d i:Int) < k then (dTick d,1) else (dSet (dTick d) i ⟨(d.files.getD i default).b.take k.toNat,k.toNat⟩,0)
 | none=>(dTick d,6)
def dRename (d:DiskD) (a b:ByteArray):DiskD×Int:=
 if dFails d then (dTick d,8) else
 match nmAt d.now a with
 | some i=>if namedB b=false then (dTick d,1) else if a=b then (dTick d,0) else (dChange (dTick d) (.ren a b),0)
 | none=>(dTick d,6)
def dRemove (d:DiskD) (n:ByteArray):DiskD×Int:=
 if dFails d then (dTick d,8) else
 match nmAt d.now n with
 | some i=>(dChange (dTick d) (.rem n),0)
 | none=>(dTick d,6)
def dSyncDir (d:DiskD):DiskD×Int:=
 if dFails d then (dTick d,8) else (dFirm (dTick d),0)
def dRead (d:DiskD) (n:ByteArray):Option (List UInt8):=(nmAt d.now n).map (fun i=>(d.files.getD i default).b)
def dNames (d:DiskD):List ByteArray:=d.now.map (·.1)
def pickN (p:List UInt8) (n:Nat):Nat:=match p with
 | []=>0
 | x::_=>x.toNat % (n+1)
def cutF (f:FileD) (k:Nat):FileD:=⟨f.b.take (f.sure+k),f.sure+k⟩
def crashFiles:NmL→List FileD→List UInt8→List FileD
 | [],fs,_=>fs
 | x::r,fs,p=>crashFiles r (fs.set x.2 (cutF (fs.getD x.2 default) (pickN p ((fs.getD x.2 default).b.length - (fs.getD x.2 default).sure)))) p.tail
def crashNames (d:DiskD) (p:List UInt8):NmL:=(d.ch.take (pickN p d.ch.length)).foldl nmDo d.sure
def dCrash (d:DiskD) (p:List UInt8):DiskD:=
 { d with files:=crashFiles (crashNames d p) d.files p.tail,now:=crashNames d p,sure:=crashNames d p,ch:=[],fail:=0 }
structure NmOk (N:NmL) (k:Nat):Prop where
 row:N.Pairwise (fun x y=>nlt x.1 y.1=true)
 ids:(N.map (·.2)).Nodup
 lt:∀ x∈N,x.2 < k
 named:∀ x∈N,namedB x.1=true
 few:N.length≤200
def Hist:NmL→List ChgD→NmL→Nat→Prop
 | N,[],M,k=>N=M∧NmOk N k
 | N,c::r,M,k=>NmOk N k∧(∀ a b,c=.ren a b→a≠b∧∃ f,nmAt N a=some f)∧Hist (nmDo N c) r M k
structure DiskOk (d:DiskD):Prop where
 quota:d.quota≤67108864
 file:∀ f∈d.files,f.b.length≤1048576∧f.sure≤f.b.length
 hist:Hist d.sure d.ch d.now d.files.length
 chops:d.ch.length≤d.ops
 fops:d.files.length≤d.ops
 fail:d.fail≤4611686018427387904
 rems:∀ n,ChgD.rem n∈d.ch→n.size≤16
theorem nlt_irrefl (a:ByteArray):nlt a a=false:=bl_irrefl _
theorem nmAt_none {N:NmL} {n:ByteArray}:nmAt N n=none↔∀ x∈N,x.1≠n:=by
 simp [nmAt,List.find?_eq_none]
theorem nmAt_mem {N:NmL} {n:ByteArray} {f:Nat} (h:nmAt N n=some f):(n,f)∈N:=by
 unfold nmAt at h
 cases e:N.find? (fun x=>decide (x.1=n)) with
 | none=>rw [e] at h;cases h
 | some x=>
  rw [e] at h
  have h1:=List.mem_of_find?_eq_some e
  have h2:=List.find?_some e
  simp at h h2
  subst h;subst h2;exact h1
def NmRow (N:NmL):Prop:=N.Pairwise (fun x y=>nlt x.1 y.1=true)
theorem NmRow.keys {N:NmL} (h:NmRow N):(N.map (·.1)).Nodup:=by
 refine List.pairwise_map.2 (h.imp fun {a b} hl e=>?_)
 rw [e,nlt_irrefl] at hl;cases hl
theorem nm_key {N:NmL} (h:(N.map (·.1)).Nodup) {n:ByteArray} {f g:Nat} (h1:(n,f)∈N) (h2:(n,g)∈N):f=g:=by
 induction N with
 | nil=>simp at h1
 | cons x r ih=>
  obtain⟨n1,n2⟩:=List.nodup_cons.1 h
  rcases List.mem_cons.1 h1 with e1 | h1
  ·rcases List.mem_cons.1 h2 with e2 | h2
   ·rw [← e1] at e2;cases e2;rfl
   ·exact absurd (List.mem_map_of_mem (f:=(·.1)) h2) (by rw [← e1] at n1;exact n1)
  ·rcases List.mem_cons.1 h2 with e2 | h2
   ·exact absurd (List.mem_map_of_mem (f:=(·.1)) h1) (by rw [← e2] at n1;exact n1)
   ·exact ih n2 h1 h2
theorem nmAt_some {N:NmL} (h:(N.map (·.1)).Nodup) {n:ByteArray} {f:Nat}:nmAt N n=some f↔(n,f)∈N:=by
 refine⟨nmAt_mem,fun hm=>?_⟩
 cases e:nmAt N n with
 | none=>exact absurd rfl (nmAt_none.1 e _ hm)
 | some g=>rw [nm_key h (nmAt_mem e) hm]
theorem nmDel_mem {N:NmL} {n:ByteArray} {x:ByteArray×Nat}:x∈nmDel N n↔x∈N∧x.1≠n:=by simp [nmDel]
theorem nmDel_row {N:NmL} (h:NmRow N) (n:ByteArray):NmRow (nmDel N n):=h.sublist List.filter_sublist
theorem nmIns_mem {n:ByteArray} {f:Nat} {x:ByteArray×Nat}:∀ {N:NmL},x∈nmIns n f N↔x=(n,f)∨x∈N
 | []=>by simp [nmIns]
 | y::r=>by
  unfold nmIns
  split
  ·simp
  ·rw [List.mem_cons,nmIns_mem,List.mem_cons]
   constructor
   ·rintro (h | h | h) <;> simp [h]
   ·rintro (h | h | h) <;> simp [h]
theorem nmIns_perm (n:ByteArray) (f:Nat):∀ (N:NmL),(nmIns n f N).Perm ((n,f)::N)
 | []=>List.Perm.refl _
 | y::r=>by
  unfold nmIns
  split
  ·exact List.Perm.refl _
  ·exact ((nmIns_perm n f r).cons y).trans (List.Perm.swap _ _ _)
theorem nlt_trans {a b c:ByteArray} (h1:nlt a b=true) (h2:nlt b c=true):nlt a c=true:=bl_trans _ _ _ h1 h2
theorem nlt_total {a b:ByteArray} (h1:nlt a b=false) (h2:nlt b a=false):a=b:=ba_ext (bl_total _ _ h1 h2)
theorem nmIns_row {n:ByteArray} {f:Nat}:∀ {N:NmL},NmRow N→(∀ x∈N,x.1≠n)→NmRow (nmIns n f N)
 | [],_,_=>List.pairwise_singleton _ _
 | y::r,h,hn=>by
  obtain⟨h1,h2⟩:=List.pairwise_cons.1 h
  unfold nmIns
  split
  ·rename_i hl
   refine List.pairwise_cons.2 ⟨fun z hz=>?_,h⟩
   rcases List.mem_cons.1 hz with rfl | hz
   ·exact hl
   ·exact nlt_trans hl (h1 z hz)
  ·rename_i hl
   refine List.pairwise_cons.2 ⟨fun z hz=>?_,nmIns_row h2 (fun x hx=>hn x (List.mem_cons_of_mem _ hx))⟩
   rcases nmIns_mem.1 hz with rfl | hz
   ·show nlt y.1 n=true
    cases e:nlt y.1 n with
    | true=>rfl
    | false=>exact absurd (nlt_total e (by simpa using hl)) (hn y (by simp))
   ·exact h1 z hz
theorem nmPut_row {N:NmL} (h:NmRow N) (n:ByteArray) (f:Nat):NmRow (nmPut N n f):=
 nmIns_row (nmDel_row h n) (fun x hx=>(nmDel_mem.1 hx).2)
theorem nmPut_mem {N:NmL} {n:ByteArray} {f:Nat} {x:ByteArray×Nat}:x∈nmPut N n f↔x=(n,f)∨(x∈N∧x.1≠n):=by
 unfold nmPut;rw [nmIns_mem,nmDel_mem]
theorem nmPut_perm (N:NmL) (n:ByteArray) (f:Nat):(nmPut N n f).Perm ((n,f)::nmDel N n):=nmIns_perm n f _
theorem nmAt_put {N:NmL} (h:NmRow N) (n m:ByteArray) (f:Nat):nmAt (nmPut N n f) m=if m=n then some f else nmAt N m:=by
 have hk:=(nmPut_row h n f).keys
 split
 ·rename_i e;subst e
  exact (nmAt_some hk).2 (nmPut_mem.2 (Or.inl rfl))
 ·rename_i e
  cases e2:nmAt N m with
  | none=>exact nmAt_none.2 (fun x hx=>by
    rcases nmPut_mem.1 hx with rfl | ⟨hx,_⟩
    ·exact fun h=>e h.symm
    ·exact nmAt_none.1 e2 x hx)
  | some g=>exact (nmAt_some hk).2 (nmPut_mem.2 (Or.inr ⟨nmAt_mem e2,e⟩))
theorem nmAt_del {N:NmL} (h:NmRow N) (n m:ByteArray):nmAt (nmDel N n) m=if m=n then none else nmAt N m:=by
 split
 ·rename_i e;subst e
  exact nmAt_none.2 (fun x hx=>(nmDel_mem.1 hx).2)
 ·rename_i e
  cases e2:nmAt N m with
  | none=>exact nmAt_none.2 (fun x hx=>nmAt_none.1 e2 x (nmDel_mem.1 hx).1)
  | some g=>exact (nmAt_some (nmDel_row h n).keys).2 (nmDel_mem.2 ⟨nmAt_mem e2,e⟩)
theorem nmDel_ids {N:NmL} (h:(N.map (·.2)).Nodup) (n:ByteArray):((nmDel N n).map (·.2)).Nodup:=h.sublist (List.filter_sublist.map _)
theorem nmDel_len (N:NmL) (n:ByteArray):(nmDel N n).length≤N.length:=List.length_filter_le _ _
theorem hist_snoc {N M:NmL} {l:List ChgD} {c:ChgD} {k k':Nat} (h:Hist N l M k) (hkk:k≤k') (hc:∀ a b,c=.ren a b→a≠b∧∃ f,nmAt M a=some f) (hok:NmOk (nmDo M c) k'):Hist N (l++[c]) (nmDo M c) k':=by
 induction l generalizing N with
 | nil=>obtain⟨rfl,h0⟩:=h;exact⟨⟨h0.row,h0.ids,fun x hx=>by have:=h0.lt x hx;omega,h0.named,h0.few⟩,hc,rfl,hok⟩
 | cons c' r ih=>obtain⟨h0,h1,h2⟩:=h;exact⟨⟨h0.row,h0.ids,fun x hx=>by have:=h0.lt x hx;omega,h0.named,h0.few⟩,h1,ih h2⟩
theorem hist_last {N M:NmL} {l:List ChgD} {k:Nat} (h:Hist N l M k):NmOk M k∧l.foldl nmDo N=M:=by
 induction l generalizing N with
 | nil=>obtain⟨rfl,h0⟩:=h;exact⟨h0,rfl⟩
 | cons c r ih=>exact ih h.2.2
theorem hist_take {N M:NmL} {l:List ChgD} {k:Nat} (h:Hist N l M k) (j:Nat):Hist N (l.take j) ((l.take j).foldl nmDo N) k:=by
 induction l generalizing N j with
 | nil=>obtain⟨rfl,h0⟩:=h;simp;exact⟨rfl,h0⟩
 | cons c r ih=>
  obtain⟨h0,h1,h2⟩:=h
  cases j with
  | zero=>exact⟨rfl,h0⟩
  | succ j=>exact⟨h0,h1,ih h2 j⟩
theorem hist_more {N M:NmL} {l:List ChgD} {k k':Nat} (h:Hist N l M k) (hk:k≤k'):Hist N l M k':=by
 induction l generalizing N with
 | nil=>obtain⟨rfl,h0⟩:=h;exact⟨rfl,h0.row,h0.ids,fun x hx=>by have:=h0.lt x hx;omega,h0.named,h0.few⟩
 | cons c r ih=>obtain⟨h0,h1,h2⟩:=h;exact⟨⟨h0.row,h0.ids,fun x hx=>by have:=h0.lt x hx;omega,h0.named,h0.few⟩,h1,ih h2⟩
theorem NmOk.del {N:NmL} {k:Nat} (h:NmOk N k) (n:ByteArray):NmOk (nmDel N n) k:=
 ⟨nmDel_row h.row n,nmDel_ids h.ids n,fun x hx=>h.lt x (nmDel_mem.1 hx).1,fun x hx=>h.named x (nmDel_mem.1 hx).1,Nat.le_trans (nmDel_len _ _) h.few⟩
theorem NmOk.put {N:NmL} {k:Nat} (h:NmOk N k) {n:ByteArray} {f:Nat} (hf:f < k) (hn:namedB n=true) (hno:∀ x∈nmDel N n,x.2≠f) (hl:(nmDel N n).length < 200):NmOk (nmPut N n f) k:=by
 have hp:=nmPut_perm N n f
 refine⟨nmPut_row h.row n f,?_,fun x hx=>?_,fun x hx=>?_,?_⟩
 ·refine (hp.map (·.2)).nodup_iff.2 (List.nodup_cons.2 ⟨fun hm=>?_,nmDel_ids h.ids n⟩)
  obtain⟨x,hx,e⟩:=List.mem_map.1 hm
  exact hno x hx e
 ·rcases nmPut_mem.1 hx with rfl | ⟨hx,_⟩
  ·exact hf
  ·exact h.lt x hx
 ·rcases nmPut_mem.1 hx with rfl | ⟨hx,_⟩
  ·exact hn
  ·exact h.named x hx
 ·rw [hp.length_eq,List.length_cons];omega
theorem nm_id {N:NmL} (h:(N.map (·.2)).Nodup) {a b:ByteArray} {f:Nat} (h1:(a,f)∈N) (h2:(b,f)∈N):a=b:=by
 induction N with
 | nil=>simp at h1
 | cons x r ih=>
  obtain⟨n1,n2⟩:=List.nodup_cons.1 h
  rcases List.mem_cons.1 h1 with e1 | h1
  ·rcases List.mem_cons.1 h2 with e2 | h2
   ·rw [← e1] at e2;cases e2;rfl
   ·exact absurd (List.mem_map_of_mem (f:=(·.2)) h2) (by rw [← e1] at n1;exact n1)
  ·rcases List.mem_cons.1 h2 with e2 | h2
   ·exact absurd (List.mem_map_of_mem (f:=(·.2)) h1) (by rw [← e2] at n1;exact n1)
   ·exact ih n2 h1 h2
theorem nmDel_lt {N:NmL} {n:ByteArray} {f:Nat} (h:nmAt N n=some f):(nmDel N n).length < N.length:=by
 have hm:=nmAt_mem h
 unfold nmDel
 refine Nat.lt_of_le_of_ne (List.length_filter_le _ _) (fun e=>?_)
 have:=List.length_filter_eq_length_iff.1 e (n,f) hm
 simp at this
theorem NmOk.ren {N:NmL} {k:Nat} (h:NmOk N k) {a b:ByteArray} {f:Nat} (ha:nmAt N a=some f) (hab:a≠b) (hb:namedB b=true):NmOk (nmDo N (.ren a b)) k:=by
 have hm:=nmAt_mem ha
 have e:nmDo N (.ren a b)=nmDel (nmPut N b f) a:=by simp [nmDo,ha]
 rw [e]
 have hdp:(nmDel (nmPut N b f) a).Perm ((b,f)::nmDel (nmDel N b) a):=by
  have:=(nmPut_perm N b f).filter (fun x=>decide (x.1≠a))
  unfold nmDel at this ⊢
  rwa [List.filter_cons,if_pos (by simpa using fun h=>hab h.symm)] at this
 have hl:(nmDel (nmDel N b) a).length < N.length:=by
  have h1:nmAt (nmDel N b) a=some f:=by rw [nmAt_del h.row,if_neg hab];exact ha
  have:=nmDel_lt h1
  have:=nmDel_len N b
  omega
 refine⟨nmDel_row (nmPut_row h.row b f) a,?_,fun x hx=>?_,fun x hx=>?_,?_⟩
 ·refine (hdp.map (·.2)).nodup_iff.2 (List.nodup_cons.2 ⟨fun hm2=>?_,nmDel_ids (nmDel_ids h.ids b) a⟩)
  obtain⟨x,hx,e2⟩:=List.mem_map.1 hm2
  obtain⟨hx,hxa⟩:=nmDel_mem.1 hx
  obtain⟨hx,_⟩:=nmDel_mem.1 hx
  simp only at e2
  exact hxa (nm_id h.ids (by rw [← e2];exact hx) hm)
 ·rcases nmPut_mem.1 (nmDel_mem.1 hx).1 with rfl | ⟨hx,_⟩
  ·exact h.lt (a,f) hm
  ·exact h.lt x hx
 ·rcases nmPut_mem.1 (nmDel_mem.1 hx).1 with rfl | ⟨hx,_⟩
  ·exact hb
  ·exact h.named x hx
 ·rw [hdp.length_eq,List.length_cons];have:=h.few;omega
theorem dTick_ok {d:DiskD} (h:DiskOk d):DiskOk (dTick d):=
 ⟨h.quota,h.file,h.hist,Nat.le_succ_of_le h.chops,Nat.le_succ_of_le h.fops,by have:=h.fail;show d.fail - 1≤_;omega,h.rems⟩
theorem hist_files {N M:NmL} {l:List ChgD} {k:Nat} (h:Hist N l M k):NmOk N k:=by
 cases l with
 | nil=>exact h.2
 | cons c r=>exact h.1
theorem DiskOk.now {d:DiskD} (h:DiskOk d):NmOk d.now d.files.length:=(hist_last h.hist).1
theorem DiskOk.sure' {d:DiskD} (h:DiskOk d):NmOk d.sure d.files.length:=hist_files h.hist
theorem DiskOk.at {d:DiskD} (h:DiskOk d) {n:ByteArray} {i:Nat} (e:nmAt d.now n=some i):i < d.files.length:=h.now.lt _ (nmAt_mem e)
theorem set_default {l:List FileD} {i:Nat} (hi:i < l.length) (x:FileD) (j:Nat):(l.set i x).getD j default=if j=i then x else l.getD j default:=by
 simp only [List.getD_eq_getElem?_getD]
 rw [List.getElem?_set]
 by_cases e:i=j
 ·subst e;simp [hi]
 ·rw [if_neg e,if_neg (fun e2=>e e2.symm)]
theorem getD_mem {l:List FileD} {i:Nat} (hi:i < l.length):l.getD i default∈l:=by
 rw [List.getD_eq_getElem?_getD,List.getElem?_eq_getElem hi];simp
theorem dSetFile_ok {d:DiskD} (h:DiskOk d) {i:Nat} {x:FileD} (hx:x.b.length≤1048576∧x.sure≤x.b.length):DiskOk (dSet d i x):=by
 refine⟨h.quota,fun f hf=>?_,by simpa [dSet] using h.hist,h.chops,by simpa [dSet] using h.fops,h.fail,h.rems⟩
 rcases List.mem_or_eq_of_mem_set hf with hf | rfl
 ·exact h.file f hf
 ·exact hx
theorem dChange_ok {d:DiskD} (h:DiskOk d) {c:ChgD} (hc:∀ a b,c=.ren a b→a≠b∧∃ f,nmAt d.now a=some f) (hok:NmOk (nmDo d.now c) d.files.length) (ho:d.ch.length+1≤d.ops) (hr:∀ n,c=.rem n→n.size≤16):DiskOk (dChange d c):=
 ⟨h.quota,h.file,hist_snoc h.hist (Nat.le_refl _) hc hok,by simpa [dChange] using ho,h.fops,h.fail,fun n hn=>by
  rcases List.mem_append.1 hn with hn | hn
  ·exact h.rems n hn
  ·simp at hn;exact hr n hn.symm⟩
theorem dAppend_cases (d:DiskD) (n:ByteArray) (b:List UInt8) :
  (∃ e,dAppend d n b=(dTick d,e)∧(e=8∨e=1∨e=7)) ∨
  (¬ dFails d∧namedB n=true∧dRoom d (nmAt d.now n) b.length=true ∧
   ((∃ i,nmAt d.now n=some i∧dAppend d n b=(dWrite (dTick d) i b,0)) ∨
     (nmAt d.now n=none∧dAppend d n b=(dWrite (dChange (dGrow (dTick d)) (.made n d.files.length)) d.files.length b,0)))):=by
 unfold dAppend
 by_cases h1:dFails d
 ·rw [if_pos h1];exact Or.inl ⟨8,rfl,by simp⟩
 ·rw [if_neg h1]
  by_cases h2:namedB n=false
  ·rw [if_pos h2];exact Or.inl ⟨1,rfl,by simp⟩
  ·rw [if_neg h2]
   by_cases h3:dRoom d (nmAt d.now n) b.length=false
   ·rw [if_pos h3];exact Or.inl ⟨7,rfl,by simp⟩
   ·rw [if_neg h3]
    refine Or.inr ⟨h1,by simpa using h2,by simpa using h3,?_⟩
    cases e:nmAt d.now n with
    | some i=>exact Or.inl ⟨i,rfl,rfl⟩
    | none=>exact Or.inr ⟨rfl,rfl⟩
theorem dSync_cases (d:DiskD) (n:ByteArray):(∃ e,dSync d n=(dTick d,e)∧(e=8∨e=6)) ∨
  (¬ dFails d∧∃ i,nmAt d.now n=some i∧dSync d n=(dSet (dTick d) i ⟨(d.files.getD i default).b,(d.files.getD i default).b.length⟩,0)):=by
 unfold dSync
 by_cases h1:dFails d
 ·rw [if_pos h1];exact Or.inl ⟨8,rfl,by simp⟩
 ·rw [if_neg h1]
  cases e:nmAt d.now n with
  | some i=>exact Or.inr ⟨h1,i,rfl,rfl⟩
  | none=>exact Or.inl ⟨6,rfl,by simp⟩
theorem dCut_cases (d:DiskD) (n:ByteArray) (k:Int):(∃ e,dCut d n k=(dTick d,e)∧(e=8∨e=6∨e=1)) ∨
  (¬ dFails d∧∃ i,nmAt d.now n=some i∧0≤k∧k≤flen d i∧dCut d n k=(dSet (dTick d) i ⟨(d.files.getD i default).b.take k.toNat,k.toNat⟩,0)):=by
 unfold dCut
 by_cases h1:dFails d
 ·rw [if_pos h1];exact Or.inl ⟨8,rfl,by simp⟩
 ·rw [if_neg h1]
  cases e:nmAt d.now n with
  | some i=>
   by_cases h2:k < 0∨(flen d i:Int) < k
   ·simp only;rw [if_pos h2];exact Or.inl ⟨1,rfl,by simp⟩
   ·simp only;rw [if_neg h2];exact Or.inr ⟨h1,i,rfl,by omega,by omega,rfl⟩
  | none=>exact Or.inl ⟨6,rfl,by simp⟩
theorem dRename_cases (d:DiskD) (a b:ByteArray):(∃ e,dRename d a b=(dTick d,e)∧(e=8∨e=6∨e=1)) ∨
  (¬ dFails d∧(∃ i,nmAt d.now a=some i)∧namedB b=true∧((a=b∧dRename d a b=(dTick d,0))∨(a≠b∧dRename d a b=(dChange (dTick d) (.ren a b),0)))):=by
 unfold dRename
 by_cases h1:dFails d
 ·rw [if_pos h1];exact Or.inl ⟨8,rfl,by simp⟩
 ·rw [if_neg h1]
  cases e:nmAt d.now a with
  | some i=>
   simp only
   by_cases h2:namedB b=false
   ·rw [if_pos h2];exact Or.inl ⟨1,rfl,by simp⟩
   ·rw [if_neg h2]
    refine Or.inr ⟨h1,⟨i,rfl⟩,by simpa using h2,?_⟩
    by_cases h3:a=b
    ·rw [if_pos h3];exact Or.inl ⟨h3,rfl⟩
    ·rw [if_neg h3];exact Or.inr ⟨h3,rfl⟩
  | none=>exact Or.inl ⟨6,rfl,by simp⟩
theorem dRemove_cases (d:DiskD) (n:ByteArray):(∃ e,dRemove d n=(dTick d,e)∧(e=8∨e=6)) ∨
  (¬ dFails d∧(∃ i,nmAt d.now n=some i)∧dRemove d n=(dChange (dTick d) (.rem n),0)):=by
 unfold dRemove
 by_cases h1:dFails d
 ·rw [if_pos h1];exact Or.inl ⟨8,rfl,by simp⟩
 ·rw [if_neg h1]
  cases e:nmAt d.now n with
  | some i=>exact Or.inr ⟨h1,⟨i,rfl⟩,rfl⟩
  | none=>exact Or.inl ⟨6,rfl,by simp⟩
theorem dSyncDir_cases (d:DiskD):dSyncDir d=(dTick d,8)∨(¬ dFails d∧dSyncDir d=(dFirm (dTick d),0)):=by
 unfold dSyncDir
 by_cases h1:dFails d
 ·rw [if_pos h1];exact Or.inl rfl
 ·rw [if_neg h1];exact Or.inr ⟨h1,rfl⟩
/-! A disk that may be stays one. -/
theorem dWrite_ok {d:DiskD} (h:DiskOk d) {i:Nat} (hi:i < d.files.length) {b:List UInt8} (hb:b.length+flen d i≤1048576):DiskOk (dWrite d i b):=by
 refine dSetFile_ok h ⟨?_,?_⟩
 ·simp only [List.length_append];unfold flen at hb;omega
 ·have:=(h.file _ (getD_mem hi)).2
  simp only [List.length_append];omega
theorem dRoom_iff {d:DiskD} {f:Option Nat} {n:Nat}:dRoom d f n=true↔(dSize d≤d.quota∧n+dSize d≤d.quota∧n+(match f with | some i=>flen d i | none=>0)≤1048576∧(f=none→d.now.length < 200)):=by
 unfold dRoom;exact decide_eq_true_iff
theorem nmDel_none {N:NmL} {n:ByteArray} (h:nmAt N n=none):nmDel N n=N:=
 List.filter_eq_self.2 (fun x hx=>by simpa using nmAt_none.1 h x hx)
theorem dAppend_ok {d:DiskD} (h:DiskOk d) (n:ByteArray) (b:List UInt8):DiskOk (dAppend d n b).1:=by
 rcases dAppend_cases d n b with ⟨e,h1,_⟩|⟨_,hn,hr,⟨i,h1,h2⟩|⟨h1,h2⟩⟩
 ·rw [h1];exact dTick_ok h
 ·rw [h2]
  rw [h1] at hr
  exact dWrite_ok (dTick_ok h) (h.at h1) (dRoom_iff.1 hr).2.2.1
 ·rw [h2]
  rw [h1] at hr
  have hr':=dRoom_iff.1 hr
  have hk:DiskOk (dGrow (dTick d)):=by
   refine⟨h.quota,fun f hf=>?_,hist_more h.hist (by simp [dGrow,dTick]),Nat.le_succ_of_le h.chops,by have:=h.fops;simp [dGrow,dTick];omega,(dTick_ok h).fail,h.rems⟩
   rcases List.mem_append.1 hf with hf | hf
   ·exact h.file f hf
   ·simp at hf;subst hf;simp
  have hkn:=hk.now
  refine dWrite_ok (dChange_ok hk (fun a b e=>by cases e) ?_ ?_ (fun n e=>by cases e)) (by simp [dChange,dGrow,dTick]) ?_
  ·show NmOk (nmPut d.now n d.files.length) _
   refine NmOk.put hkn (by simp [dGrow,dTick]) hn (fun x hx e=>?_) (by rw [show (dGrow (dTick d)).now=d.now from rfl,nmDel_none h1];exact hr'.2.2.2 rfl)
   have:=h.now.lt x (nmDel_mem.1 hx).1
   omega
  ·have:=h.chops;simp [dGrow,dTick];omega
  ·have:=hr'.2.2.1
   simp only [flen,dChange,dGrow,dTick,List.getD_eq_getElem?_getD]
   simpa using this
theorem dSync_ok {d:DiskD} (h:DiskOk d) (n:ByteArray):DiskOk (dSync d n).1:=by
 rcases dSync_cases d n with ⟨e,h1,_⟩|⟨_,i,h1,h2⟩
 ·rw [h1];exact dTick_ok h
 ·rw [h2];exact dSetFile_ok (dTick_ok h) ⟨(h.file _ (getD_mem (h.at h1))).1,Nat.le_refl _⟩
theorem dCut_ok {d:DiskD} (h:DiskOk d) (n:ByteArray) (k:Int):DiskOk (dCut d n k).1:=by
 rcases dCut_cases d n k with ⟨e,h1,_⟩|⟨_,i,h1,h0,hk,h2⟩
 ·rw [h1];exact dTick_ok h
 ·rw [h2]
  have:=(h.file _ (getD_mem (h.at h1))).1
  refine dSetFile_ok (dTick_ok h) ⟨?_,?_⟩
  ·simp only [List.length_take];omega
  ·unfold flen at hk;simp only [List.length_take];omega
theorem dRename_ok {d:DiskD} (h:DiskOk d) (a b:ByteArray):DiskOk (dRename d a b).1:=by
 rcases dRename_cases d a b with ⟨e,h1,_⟩|⟨_,⟨i,h1⟩,hb,⟨h2,h3⟩|⟨h2,h3⟩⟩
 ·rw [h1];exact dTick_ok h
 ·rw [h3];exact dTick_ok h
 ·rw [h3]
  refine dChange_ok (dTick_ok h) (fun x y e=>by cases e;exact⟨h2,i,h1⟩) ?_ (Nat.succ_le_succ h.chops) (fun n e=>by cases e)
  exact h.now.ren h1 h2 hb
theorem dRemove_ok {d:DiskD} (h:DiskOk d) (n:ByteArray):DiskOk (dRemove d n).1:=by
 rcases dRemove_cases d n with ⟨e,h1,_⟩|⟨_,⟨i,h1⟩,h2⟩
 ·rw [h1];exact dTick_ok h
 ·rw [h2];exact dChange_ok (dTick_ok h) (fun x y e=>by cases e) (h.now.del n) (Nat.succ_le_succ h.chops) (fun m e=>by
   cases e
   have:=h.now.named _ (nmAt_mem h1)
   have h3:1≤n.size∧n.size≤16:=of_decide_eq_true this
   exact h3.2)
theorem dSyncDir_ok {d:DiskD} (h:DiskOk d):DiskOk (dSyncDir d).1:=by
 rcases dSyncDir_cases d with h1 | ⟨_,h2⟩
 ·rw [h1];exact dTick_ok h
 ·rw [h2];exact⟨h.quota,h.file,⟨rfl,h.now⟩,Nat.zero_le _,Nat.le_succ_of_le h.fops,(dTick_ok h).fail,fun n hn=>by simp [dFirm] at hn⟩
theorem dNew_ok (q:Int):DiskOk (dNew q):=by
 refine⟨by simp [dNew];omega,fun f hf=>by simp [dNew] at hf,⟨rfl,⟨List.Pairwise.nil,List.nodup_nil,by simp [dNew],by simp [dNew],by simp [dNew]⟩⟩,Nat.le_refl _,Nat.le_refl _,by simp [dNew],by simp [dNew]⟩
theorem pickN_le (p:List UInt8) (n:Nat):pickN p n≤n:=by
 unfold pickN;split
 ·omega
 ·have:=Nat.mod_lt (y:=n+1) (‹UInt8›.toNat) (by omega);omega
theorem crashFiles_length:∀ (N:NmL) (fs:List FileD) (p:List UInt8),(crashFiles N fs p).length=fs.length
 | [],_,_=>rfl
 | x::r,fs,p=>by unfold crashFiles;rw [crashFiles_length r];simp
theorem crashFiles_mem:∀ (N:NmL) (fs:List FileD) (p:List UInt8),(∀ x∈N,x.2 < fs.length)→(∀ f∈fs,f.b.length≤1048576∧f.sure≤f.b.length)→∀ f∈crashFiles N fs p,f.b.length≤1048576∧f.sure≤f.b.length
 | [],_,_,_,h=>h
 | x::r,fs,p,hl,h=>by
  unfold crashFiles
  refine crashFiles_mem r _ _ (fun y hy=>by rw [List.length_set];exact hl y (List.mem_cons_of_mem _ hy)) (fun f hf=>?_)
  rcases List.mem_or_eq_of_mem_set hf with hf | rfl
  ·exact h f hf
  ·obtain⟨h1,h2⟩:=h _ (getD_mem (hl x (by simp)))
   have:=pickN_le p ((fs.getD x.2 default).b.length - (fs.getD x.2 default).sure)
   simp only [cutF,List.length_take];omega
theorem crashNames_ok {d:DiskD} (h:DiskOk d) (p:List UInt8):NmOk (crashNames d p) d.files.length:=(hist_last (hist_take h.hist _)).1
theorem dCrash_ok {d:DiskD} (h:DiskOk d) (p:List UInt8):DiskOk (dCrash d p):=by
 have hn:=crashNames_ok h p
 refine⟨h.quota,crashFiles_mem _ _ _ hn.lt h.file,⟨rfl,?_⟩,Nat.zero_le _,?_,by simp [dCrash],by simp [dCrash]⟩
 ·show NmOk (crashNames d p) (crashFiles _ _ _).length
  rw [crashFiles_length];exact hn
 ·show (crashFiles _ _ _).length≤d.ops
  rw [crashFiles_length];exact h.fops
theorem dOps (d:DiskD) (n m:ByteArray) (b:List UInt8) (k:Int):(dAppend d n b).1.ops=d.ops+1∧(dSync d n).1.ops=d.ops+1∧(dCut d n k).1.ops=d.ops+1∧(dRename d n m).1.ops=d.ops+1∧(dRemove d n).1.ops=d.ops+1∧(dSyncDir d).1.ops=d.ops+1:=by
 refine⟨?_,?_,?_,?_,?_,?_⟩
 ·rcases dAppend_cases d n b with ⟨e,h1,_⟩|⟨_,_,_,⟨i,_,h2⟩|⟨_,h2⟩⟩ <;> simp_all [dTick,dWrite,dChange,dSet,dGrow]
 ·rcases dSync_cases d n with ⟨e,h1,_⟩|⟨_,i,h1,h2⟩ <;> simp_all [dTick,dSet]
 ·rcases dCut_cases d n k with ⟨e,h1,_⟩|⟨_,i,h1,_,_,h2⟩ <;> simp_all [dTick,dSet]
 ·rcases dRename_cases d n m with ⟨e,h1,_⟩|⟨_,_,_,⟨_,h2⟩|⟨_,h2⟩⟩ <;> simp_all [dTick,dChange]
 ·rcases dRemove_cases d n with ⟨e,h1,_⟩|⟨_,_,h2⟩ <;> simp_all [dTick,dChange]
 ·rcases dSyncDir_cases d with h1 | ⟨_,h2⟩ <;> simp_all [dTick,dFirm]
/-! What an operation on other names leaves. -/
def agree (K:ByteArray→Prop) (N M:NmL):Prop:=∀ n,K n→nmAt N n=nmAt M n
def statesD (d:DiskD) (N:NmL):Prop:=∃ j,j≤d.ch.length∧N=(d.ch.take j).foldl nmDo d.sure
structure Other (K:ByteArray→Prop) (d d':DiskD):Prop where
 names:agree K d'.now d.now
 files:∀ n i,K n→nmAt d.now n=some i→d'.files.getD i default=d.files.getD i default
 states:∀ N,statesD d' N→statesD d N∨agree K N d.now
theorem Other.refl (K:ByteArray→Prop) (d:DiskD):Other K d d:=⟨fun _ _=>rfl,fun _ _ _ _=>rfl,fun N h=>Or.inl h⟩
theorem Other.trans {K:ByteArray→Prop} {a b c:DiskD} (h1:Other K a b) (h2:Other K b c):Other K a c:=by
 refine⟨fun n hn=>(h2.names n hn).trans (h1.names n hn),fun n i hn hi=>?_,fun N hN=>?_⟩
 ·rw [h2.files n i hn (by rw [h1.names n hn];exact hi),h1.files n i hn hi]
 ·rcases h2.states N hN with h | h
  ·exact h1.states N h
  ·exact Or.inr (fun n hn=>(h n hn).trans (h1.names n hn))
theorem Other.same {K:ByteArray→Prop} {d d':DiskD} (h1:d'.now=d.now) (h2:d'.files=d.files) (h3:d'.ch=d.ch) (h4:d'.sure=d.sure):Other K d d':=
 ⟨fun _ _=>by rw [h1],fun _ _ _ _=>by rw [h2],fun N hN=>Or.inl (by unfold statesD at *;rwa [h3,h4] at hN)⟩
theorem Other.tick (K:ByteArray→Prop) (d:DiskD):Other K d (dTick d):=Other.same rfl rfl rfl rfl
theorem states_change {d:DiskD} (h:DiskOk d) {c:ChgD} {N:NmL} (hN:statesD (dChange d c) N):statesD d N∨N=nmDo d.now c:=by
 obtain⟨j,hj,rfl⟩:=hN
 simp only [dChange,List.length_append,List.length_cons,List.length_nil] at hj
 by_cases e:j≤d.ch.length
 ·exact Or.inl ⟨j,e,by simp only [dChange];rw [List.take_append_of_le_length e]⟩
 ·obtain rfl:j=d.ch.length+1:=by omega
  right
  simp only [dChange]
  rw [List.take_of_length_le (by simp),List.foldl_append,(hist_last h.hist).2]
  rfl
theorem Other.file {K:ByteArray→Prop} {d:DiskD} (h:DiskOk d) {n:ByteArray} (hn:¬ K n) {i:Nat} (hi:nmAt d.now n=some i) (x:FileD):Other K d (dSet d i x):=by
 refine⟨fun _ _=>rfl,fun m j hm hj=>?_,fun N hN=>Or.inl hN⟩
 show (d.files.set i x).getD j default=_
 rw [set_default (h.at hi)]
 split
 ·rename_i e;subst e
  have:=nm_id h.now.ids (nmAt_mem hi) (nmAt_mem hj)
  subst this;exact absurd hm hn
 ·rfl
theorem Other.change {K:ByteArray→Prop} {d:DiskD} (h:DiskOk d) {c:ChgD} (hc:agree K (nmDo d.now c) d.now):Other K d (dChange d c):=
 ⟨hc,fun _ _ _ _=>rfl,fun N hN=>by
  rcases states_change h hN with h1 | rfl
  ·exact Or.inl h1
  ·exact Or.inr hc⟩
theorem agree_put {K:ByteArray→Prop} {N:NmL} (h:NmRow N) {n:ByteArray} (hn:¬ K n) (f:Nat):agree K (nmPut N n f) N:=fun m hm=>by
 rw [nmAt_put h,if_neg (fun e=>hn (by rw [← e];exact hm))]
theorem agree_del {K:ByteArray→Prop} {N:NmL} (h:NmRow N) {n:ByteArray} (hn:¬ K n):agree K (nmDel N n) N:=fun m hm=>by
 rw [nmAt_del h,if_neg (fun e=>hn (by rw [← e];exact hm))]
theorem Other.append {K:ByteArray→Prop} {d:DiskD} (h:DiskOk d) {n:ByteArray} (hn:¬ K n) (b:List UInt8):Other K d (dAppend d n b).1:=by
 rcases dAppend_cases d n b with ⟨e,h1,_⟩|⟨_,hnm,hr,⟨i,h1,h2⟩|⟨h1,h2⟩⟩
 ·rw [h1];exact Other.tick K d
 ·rw [h2];exact (Other.tick K d).trans (Other.file (dTick_ok h) hn h1 _)
 ·rw [h2]
  have g:Other K d (dChange (dGrow (dTick d)) (.made n d.files.length)):=by
   refine⟨agree_put h.now.row hn _,fun m j hm hj=>?_,fun N hN=>?_⟩
   ·have:=h.at hj
    simp only [dChange,dGrow,dTick,List.getD_eq_getElem?_getD]
    rw [List.getElem?_append_left this]
   ·obtain⟨j,hj,rfl⟩:=hN
    simp only [dChange,dGrow,dTick,List.length_append,List.length_cons,List.length_nil] at hj
    by_cases e:j≤d.ch.length
    ·exact Or.inl ⟨j,e,by simp only [dChange,dGrow,dTick];rw [List.take_append_of_le_length e]⟩
    ·obtain rfl:j=d.ch.length+1:=by omega
     right
     simp only [dChange,dGrow,dTick]
     rw [List.take_of_length_le (by simp),List.foldl_append,(hist_last h.hist).2]
     exact agree_put h.now.row hn _
  refine g.trans ⟨fun _ _=>rfl,fun m j hm hj=>?_,fun N hN=>Or.inl hN⟩
  simp only [dWrite,dSet]
  rw [set_default (by simp [dChange,dGrow,dTick])]
  split
  ·rename_i e;subst e
   rw [g.names m hm] at hj
   have:=h.at hj;omega
  ·rfl
theorem Other.sync {K:ByteArray→Prop} {d:DiskD} (h:DiskOk d) {n:ByteArray} (hn:¬ K n):Other K d (dSync d n).1:=by
 rcases dSync_cases d n with ⟨e,h1,_⟩|⟨_,i,h1,h2⟩
 ·rw [h1];exact Other.tick K d
 ·rw [h2];exact (Other.tick K d).trans (Other.file (dTick_ok h) hn h1 _)
theorem Other.remove {K:ByteArray→Prop} {d:DiskD} (h:DiskOk d) {n:ByteArray} (hn:¬ K n):Other K d (dRemove d n).1:=by
 rcases dRemove_cases d n with ⟨e,h1,_⟩|⟨_,⟨i,h1⟩,h2⟩
 ·rw [h1];exact Other.tick K d
 ·rw [h2];exact (Other.tick K d).trans (Other.change (dTick_ok h) (agree_del h.now.row hn))
structure ManD where
 ver:Nat
 next:Nat
 segs:List Nat
deriving DecidableEq,Inhabited
structure LogD where
 size:Nat
 m:ManD
 loose:Bool
deriving DecidableEq,Inhabited
def nmHead:ByteArray:=⟨#[109]⟩
def nmFresh:ByteArray:=⟨#[109,46,110,101,119]⟩
def dig (n k:Nat):UInt8:=UInt8.ofNat (48+n / 10 ^ k % 10)
def segName (s:Nat):ByteArray:=if s < 1∨1000000≤s then ByteArray.empty else ⟨#[115,dig s 5,dig s 4,dig s 3,dig s 2,dig s 1,dig s 0]⟩
def upB (b:Nat):Nat→List Nat→Bool
 | _,[]=>true
 | was,s::r=>decide (was < s∧s < b) && upB b s r
def mayM (m:ManD):Bool:=decide (1≤m.ver∧m.ver≤3∧1≤m.segs.length∧m.segs.length≤64∧1≤m.next∧m.next≤1000000) && upB m.next 0 m.segs
def manBody (m:ManD):List UInt8:=be m.next 4++be m.segs.length 2++(m.segs.map (fun s=>be s 4)).flatten
def manFr (m:ManD):FrD:=⟨100,m.ver,manBody m⟩
def manEnc (m:ManD):List UInt8×Int:=if mayM m then (frBytes (manFr m),0) else ([],1)
def thenD {σ:Type} (r:σ×Int) (f:σ→σ×Int):σ×Int:=if r.2=0 then f r.1 else r
def clearD (n:ByteArray) (d:DiskD):DiskD×Int:=if (nmAt d.now n).isSome then dRemove d n else (d,0)
def beginD (s:Nat) (d:DiskD):DiskD×Int:=thenD (clearD (segName s) d) (fun d=>dAppend d (segName s) [])
def freshD (m:ManD) (d:DiskD):DiskD×Int:=
 thenD (thenD (thenD (clearD nmFresh d) (fun d=>dAppend d nmFresh (frBytes (manFr m)))) (fun d=>dSync d nmFresh)) (fun d=>dRename d nmFresh nmHead)
def commitD (m:ManD) (d:DiskD):DiskD×Bool×Int:=
 if mayM m=false then (d,false,1)
 else if (freshD m d).2≠0 then ((freshD m d).1,false,(freshD m d).2)
 else ((dSyncDir (freshD m d).1).1,true,(dSyncDir (freshD m d).1).2)
def sized (n:Int):Nat:=(max 16 (min n 1048576)).toNat
def firstM (v:Nat):ManD:=⟨v,2,[1]⟩
def createD (v size:Int) (d:DiskD):DiskD×Option LogD×Int:=
 if v < 1∨3 < v then (d,none,10)
 else if (nmAt d.now nmHead).isSome then (d,none,12)
 else
  let r:=thenD (thenD (beginD 1 d) (fun d=>dSync d (segName 1))) (fun d=>((commitD (firstM v.toNat) d).1,(commitD (firstM v.toNat) d).2.2))
  if r.2≠0 then (r.1,none,r.2) else (r.1,some ⟨sized size,firstM v.toNat,false⟩,0)
abbrev DL:=DiskD×LogD
def lastS (l:LogD):ByteArray:=segName (l.m.segs.getLastD 0)
def bytesD (d:DiskD) (n:ByteArray):Nat:=((dRead d n).getD []).length
def fitsL (l:LogD) (have' more:Nat):Bool:=decide (have'=0∨have'+more≤l.size)
def onDisk (f:DiskD→DiskD×Int) (s:DL):DL×Int:=(((f s.1).1,s.2),(f s.1).2)
def settleL (s:DL):DL×Int:=
 if s.2.loose then (((dSyncDir s.1).1,{ s.2 with loose:=decide ((dSyncDir s.1).2≠0) }),(dSyncDir s.1).2) else (s,0)
def adoptL (m:ManD) (s:DL):DL×Bool×Int:=
 (((commitD m s.1).1,if (commitD m s.1).2.1 then { s.2 with m:=m,loose:=decide ((commitD m s.1).2.2≠0) } else s.2),(commitD m s.1).2.1,(commitD m s.1).2.2)
def turnM (l:LogD):ManD:=⟨l.m.ver,l.m.next+1,l.m.segs++[l.m.next]⟩
def turnL (s:DL):DL×Int:=
 if 64≤s.2.m.segs.length then (s,4) else
 thenD (thenD (thenD (onDisk (fun d=>dSync d (lastS s.2)) s) (onDisk (beginD s.2.m.next))) (onDisk (fun d=>dSync d (segName s.2.m.next)))) (fun t=>((adoptL (turnM s.2) t).1,(adoptL (turnM s.2) t).2.2))
def appendL (kind:Int) (body:List UInt8) (s:DL):DL×Int:=
 if putErr kind s.2.m.ver body.length≠0 then (s,putErr kind s.2.m.ver body.length) else
 thenD (thenD (settleL s) (fun t=>if fitsL t.2 (bytesD t.1 (lastS t.2)) (frBytes ⟨kind.toNat,s.2.m.ver,body⟩).length then (t,0) else turnL t))
  (fun t=>onDisk (fun d=>dAppend d (lastS t.2) (frBytes ⟨kind.toNat,s.2.m.ver,body⟩)) t)
def syncL (s:DL):DL×Int:=thenD (settleL s) (fun t=>onDisk (fun d=>dSync d (lastS t.2)) t)
def nextD (nx:Nat) (b:List UInt8) (s:DiskD×List Nat×Nat):(DiskD×List Nat×Nat)×Int:=
 if 64≤s.2.1.length then (s,4)
 else if (clearD (segName (nx+s.2.1.length)) s.1).2≠0 then (((clearD (segName (nx+s.2.1.length)) s.1).1,s.2),(clearD (segName (nx+s.2.1.length)) s.1).2)
 else (((dAppend (clearD (segName (nx+s.2.1.length)) s.1).1 (segName (nx+s.2.1.length)) b).1,s.2.1++[nx+s.2.1.length],b.length),(dAppend (clearD (segName (nx+s.2.1.length)) s.1).1 (segName (nx+s.2.1.length)) b).2)
def newest (segs:List Nat):ByteArray:=segName (segs.getLastD 0)
def rowD (l:LogD) (b:List UInt8) (s:DiskD×List Nat×Nat):(DiskD×List Nat×Nat)×Int:=
 if s.2.1=[] then nextD l.m.next b s
 else if fitsL l s.2.2 b.length then (((dAppend s.1 (newest s.2.1) b).1,s.2.1,s.2.2+b.length),(dAppend s.1 (newest s.2.1) b).2)
 else thenD (((dSync s.1 (newest s.2.1)).1,s.2),(dSync s.1 (newest s.2.1)).2) (nextD l.m.next b)
def rowsD (l:LogD):List (List UInt8)→(DiskD×List Nat×Nat)→(DiskD×List Nat×Nat)×Int
 | [],s=>(s,0)
 | b::r,s=>thenD (rowD l b s) (rowsD l r)
def layD (l:LogD) (rows:List (List UInt8)) (d:DiskD):(DiskD×List Nat×Nat)×Int:=
 thenD (thenD (rowsD l rows (d,[],0)) (fun s=>if s.2.1=[] then nextD l.m.next [] s else (s,0)))
  (fun s=>(((dSync s.1 (newest s.2.1)).1,s.2),(dSync s.1 (newest s.2.1)).2))
def dropD:List Nat→DiskD→DiskD
 | [],d=>d
 | s::r,d=>dropD r (clearD (segName s) d).1
def removeD:List Nat→DiskD→DiskD
 | [],d=>d
 | s::r,d=>removeD r (dRemove d (segName s)).1
def swapIn (ver:Nat) (l:LogD) (segs:List Nat):ManD:=⟨ver,l.m.next+segs.length,segs⟩
def swapL (ver:Nat) (rows:List (List UInt8)) (s:DL):DL×Int:=
 if (settleL s).2≠0 then settleL s else
 let t:=(settleL s).1
 let r:=layD t.2 rows t.1
 if r.2≠0 then ((dropD r.1.2.1 r.1.1,t.2),r.2) else
 let a:=adoptL (swapIn ver t.2 r.1.2.1) (r.1.1,t.2)
 if a.2.2=0 then ((removeD t.2.m.segs a.1.1,a.1.2),0)
 else if a.2.1 then (a.1,a.2.2) else ((dropD r.1.2.1 a.1.1,a.1.2),a.2.2)
def tellAll {σ:Type} (each:σ→FrD→σ×Int) (ver:Nat):List FrD→σ→σ×Int
 | [],s=>(s,0)
 | f::r,s=>if f.ver≠ver then (s,3) else if (each s f).2≠0 then each s f else tellAll each ver r (each s f).1
def scanSeg {σ:Type} (each:σ→FrD→σ×Int) (d:DiskD) (m:ManD) (i:Nat) (s:σ):σ×Nat×Int:=
 match dRead d (segName (m.segs.getD i 0)) with
 | none=>(s,0,6)
 | some b=>
  if (frScan b).2.2≠0∧i+1 < m.segs.length then (s,0,3)
  else if (tellAll each m.ver (frScan b).1 s).2≠0 then ((tellAll each m.ver (frScan b).1 s).1,0,(tellAll each m.ver (frScan b).1 s).2)
  else ((tellAll each m.ver (frScan b).1 s).1,(frScan b).2.1,0)
def scanAll {σ:Type} (each:σ→FrD→σ×Int) (d:DiskD) (m:ManD):Nat→Nat→Nat→σ→σ×Nat×Int
 | 0,_,n,s=>(s,n,0)
 | k+1,i,_,s=>if (scanSeg each d m i s).2.2≠0 then scanSeg each d m i s else scanAll each d m k (i+1) (scanSeg each d m i s).2.1 (scanSeg each d m i s).1
def manDec (b:List UInt8):ManD×Int:=
 if (frTake b).2.2≠0 then (default,(frTake b).2.2)
 else if (frTake b).2.1 < b.length∨(frTake b).1.kind≠100 then (default,3)
 else if (frTake b).1.ver < 1∨3 < (frTake b).1.ver then (default,10)
 else
  let x:=(frTake b).1.body
  let k:=num ((x.drop 4).take 2)
  let m:ManD:=⟨(frTake b).1.ver,num (x.take 4),(List.range k).map (fun j=>num ((x.drop (6+4 * j)).take 4))⟩
  if x.length=6+4 * k∧mayM m then (m,0) else (default,3)
def openL {σ:Type} (each:σ→FrD→σ×Int) (size:Int) (d:DiskD) (s:σ):σ×DiskD×Option LogD×Int:=
 match dRead d nmHead with
 | none=>(s,d,none,6)
 | some b=>
  if (manDec b).2≠0 then (s,d,none,(manDec b).2) else
  let m:=(manDec b).1
  let l:LogD:=⟨sized size,m,false⟩
  let r:=scanAll each d m m.segs.length 0 0 s
  if r.2.2≠0 then (r.1,d,none,r.2.2) else
  let e:=thenD (thenD (if r.2.1=bytesD d (lastS l) then (d,0) else dCut d (lastS l) r.2.1) (fun d=>dSync d (lastS l))) dSyncDir
  if e.2≠0 then (r.1,e.1,none,e.2) else (r.1,e.1,some l,0)
def sizeL (s:DL):Nat:=(s.2.m.segs.map (fun x=>bytesD s.1 (segName x))).sum
end Go.Proofs.YtpmmiljakbojaaaGreat
