/- Parts of the proofs that a compaction keeps what lives, and done again is as once. -/
import Derived.Test.YtogclkhpbjfadaaGreatCK1
import Derived.Test.YtogclkhpbjfadaaGreatCK3
namespace Go.Proofs.YtogclkhpbjfadaaGreat
open Go.RowKit
set_option linter.unusedVariables false
set_option maxHeartbeats 64000000
set_option maxRecDepth 100000
structure FileD where
 b:List UInt8
 sure:Nat
deriving DecidableEq,Inhabited
inductive ky where
 | made (n:ByteArray) (f:Nat)
 | ren (a b:ByteArray)
 | rem (n:ByteArray)
deriving DecidableEq
abbrev gF:=List (ByteArray×Nat)
structure ae where
 dY:Nat
 files:List FileD
 now:gF
 sure:gF
 ch:List ky
 ops:Nat
 fail:Nat
def Qe (a b:ByteArray):Bool:=bl a.data.toList b.data.toList
def bQ (N:gF) (n:ByteArray):Option Nat:=(N.find? (fun x=>decide (x.1=n))).map (·.2)
def dZ (N:gF) (n:ByteArray):gF:=N.filter (fun x=>decide (x.1≠n))
def nmIns (n:ByteArray) (f:Nat):gF→gF
 | []=>[(n,f)]
 | x::r=>if Qe n x.1 then (n,f)::x::r else x::nmIns n f r
def iQ (N:gF) (n:ByteArray) (f:Nat):gF:=nmIns n f (dZ N n)
def nmDo (N:gF):ky→gF
 | .made n f=>iQ N n f
 | .ren a b=>match bQ N a with
  | some f=>dZ (iQ N b f) a
  | none=>N
 | .rem n=>dZ N n
def gQ (n:ByteArray):Bool:=decide (1≤n.size∧n.size≤16)
def eX (d:ae) (i:Nat):Nat:=(d.files.getD i default).b.length
def fT (d:ae):Nat:=(d.now.map (fun x=>eX d x.2)).sum
def jF (dY:Int):ae:=⟨(max 0 (min dY 67108864)).toNat,[],[],[],[],0,0⟩
def aaX (d:ae) (n:Int):ae:={ d with fail:=if 1≤n∧n≤4611686018427387904 then n.toNat else 0 }
def aC (d:ae):ae:=⟨d.dY,d.files,d.now,d.sure,d.ch,d.ops+1,d.fail - 1⟩
def iE (d:ae) (i:Nat) (x:FileD):ae:=⟨d.dY,d.files.set i x,d.now,d.sure,d.ch,d.ops,d.fail⟩
def dR (d:ae):ae:=⟨d.dY,d.files++[⟨[],0⟩],d.now,d.sure,d.ch,d.ops,d.fail⟩
def dE (d:ae):Prop:=d.fail=1
instance (d:ae):Decidable (dE d):=inferInstanceAs (Decidable (d.fail=1))
def ma (d:ae):ae:=⟨d.dY,d.files,d.now,d.now,[],d.ops,d.fail⟩
def bq (d:ae) (c:ky):ae:=⟨d.dY,d.files,nmDo d.now c,d.sure,d.ch++[c],d.ops,d.fail⟩
def je (d:ae) (i:Nat) (b:List UInt8):ae:=iE d i ⟨(d.files.getD i default).b++b,(d.files.getD i default).sure⟩
def jW (d:ae) (f:Option Nat) (n:Nat):Bool:=
 decide (fT d≤d.dY∧n+fT d≤d.dY∧n+(match f with | some i=>eX d i | none=>0)≤1048576∧(f=none→d.now.length < 200))
def aH (d:ae) (n:ByteArray) (b:List UInt8):ae×Int:=
 if dE d then (aC d,8) else
 if gQ n=false then (aC d,1) else
 if jW d (bQ d.now n) b.length=false then (aC d,7) else
 match bQ d.now n with
 | some i=>(je (aC d) i b,0)
 | none=>(je (bq (dR (aC d)) (.made n d.files.length)) d.files.length b,0)
def aW (d:ae) (n:ByteArray):ae×Int:=
 if dE d then (aC d,8) else
 match bQ d.now n with
 | some i=>(iE (aC d) i ⟨(d.files.getD i default).b,(d.files.getD i default).b.length⟩,0)
 | none=>(aC d,6)
def lI (d:ae) (n:ByteArray) (k:Int):ae×Int:=
 if dE d then (aC d,8) else
 match bQ d.now n with
 | some i=>if k < 0∨(eX d i:Int) < k then (aC d,1) else (iE (aC d) i ⟨(d.files.getD i default).b.take k.toNat,k.toNat⟩,0)
 | none=>(aC d,6)
def bZ (d:ae) (a b:ByteArray):ae×Int:=
 if dE d then (aC d,8) else
 match bQ d.now a with
 | some i=>if gQ b=false then (aC d,1) else if a=b then (aC d,0) else (bq (aC d) (.ren a b),0)
 | none=>(aC d,6)
def cZ (d:ae) (n:ByteArray):ae×Int:=
 if dE d then (aC d,8) else
 match bQ d.now n with
 | some i=>(bq (aC d) (.rem n),0)
 | none=>(aC d,6)
def bE (d:ae):ae×Int:=
 if dE d then (aC d,8) else (ma (aC d),0)
def gY (d:ae) (n:ByteArray):Option (List UInt8):=(bQ d.now n).map (fun i=>(d.files.getD i default).b)
def iR (d:ae):List ByteArray:=d.now.map (·.1)
def pickN (p:List UInt8) (n:Nat):Nat:=match p with
 | []=>0
 | x::_=>x.toNat % (n+1)
def Ay (f:FileD) (k:Nat):FileD:=⟨f.b.take (f.sure+k),f.sure+k⟩
def crashFiles:gF→List FileD→List UInt8→List FileD
 | [],fs,_=>fs
 | x::r,fs,p=>crashFiles r (fs.set x.2 (Ay (fs.getD x.2 default) (pickN p ((fs.getD x.2 default).b.length - (fs.getD x.2 default).sure)))) p.tail
def iL (d:ae) (p:List UInt8):gF:=(d.ch.take (pickN p d.ch.length)).foldl nmDo d.sure
def iw (d:ae) (p:List UInt8):ae:=
 { d with files:=crashFiles (iL d p) d.files p.tail,now:=iL d p,sure:=iL d p,ch:=[],fail:=0 }
structure lJ (N:gF) (k:Nat):Prop where
 row:N.Pairwise (fun x y=>Qe x.1 y.1=true)
 ids:(N.map (·.2)).Nodup
 lt:∀ x∈N,x.2 < k
 named:∀ x∈N,gQ x.1=true
 few:N.length≤200
def zk:gF→List ky→gF→Nat→Prop
 | N,[],M,k=>N=M∧lJ N k
 | N,c::r,M,k=>lJ N k∧(∀ a b,c=.ren a b→a≠b∧∃ f,bQ N a=some f)∧zk (nmDo N c) r M k
structure aP (d:ae):Prop where
 dY:d.dY≤67108864
 file:∀ f∈d.files,f.b.length≤1048576∧f.sure≤f.b.length
 xH:zk d.sure d.ch d.now d.files.length
 wm:d.ch.length≤d.ops
 Ew:d.files.length≤d.ops
 fail:d.fail≤4611686018427387904
 Np:∀ n,ky.rem n∈d.ch→n.size≤16
theorem Az (a:ByteArray):Qe a a=false:=CB _
theorem jR {N:gF} {n:ByteArray}:bQ N n=none↔∀ x∈N,x.1≠n:=by
 simp [bQ,List.find?_eq_none]
theorem gy {N:gF} {n:ByteArray} {f:Nat} (h:bQ N n=some f):(n,f)∈N:=by
 unfold bQ at h
 cases e:N.find? (fun x=>decide (x.1=n)) with
 | none=>rw [e] at h;cases h
 | some x=>
  rw [e] at h
  have h1:=List.mem_of_find?_eq_some e
  have h2:=List.find?_some e
  simp at h h2
  subst h;subst h2;exact h1
def jB (N:gF):Prop:=N.Pairwise (fun x y=>Qe x.1 y.1=true)
theorem jB.keys {N:gF} (h:jB N):(N.map (·.1)).Nodup:=by
 refine List.pairwise_map.2 (h.imp fun {a b} hl e=>?_)
 rw [e,Az] at hl;cases hl
theorem Qf {N:gF} (h:(N.map (·.1)).Nodup) {n:ByteArray} {f g:Nat} (h1:(n,f)∈N) (h2:(n,g)∈N):f=g:=by
 induction N with
 | nil=>simp at h1
 | cons x r ih=>
  obtain⟨n1,n2⟩:=List.nodup_cons.1 h
  rcases List.mem_cons.1 h1 with e1 | h1
  ·rcases List.mem_cons.1 h2 with e2 | h2
   ·rw [← e1] at e2;cases e2;rfl
   ·exact absurd (List.mem_map_of_mem (f:=(·.1)) h2) (by rw [← e1] at n1;exact n1)
  ·rcases List.mem_cons.1 h2 with e2 | h2
   ·exact absurd (List.mem_map_of_mem (f:=(·.1)) h1) (by rw [← e2] at n1;exact n1)
   ·exact ih n2 h1 h2
theorem qa {N:gF} (h:(N.map (·.1)).Nodup) {n:ByteArray} {f:Nat}:bQ N n=some f↔(n,f)∈N:=by
 refine⟨gy,fun hm=>?_⟩
 cases e:bQ N n with
 | none=>exact absurd rfl (jR.1 e _ hm)
 | some g=>rw [Qf h (gy e) hm]
theorem fV {N:gF} {n:ByteArray} {x:ByteArray×Nat}:x∈dZ N n↔x∈N∧x.1≠n:=by simp [dZ]
theorem tT {N:gF} (h:jB N) (n:ByteArray):jB (dZ N n):=h.sublist List.filter_sublist
theorem xI {n:ByteArray} {f:Nat} {x:ByteArray×Nat}:∀ {N:gF},x∈nmIns n f N↔x=(n,f)∨x∈N
 | []=>by simp [nmIns]
 | y::r=>by
  unfold nmIns
  split
  ·simp
  ·rw [List.mem_cons,xI,List.mem_cons]
   constructor
   ·rintro (h | h | h) <;> simp [h]
   ·rintro (h | h | h) <;> simp [h]
theorem AA (n:ByteArray) (f:Nat):∀ (N:gF),(nmIns n f N).Perm ((n,f)::N)
 | []=>List.Perm.refl _
 | y::r=>by
  unfold nmIns
  split
  ·exact List.Perm.refl _
  ·exact ((AA n f r).cons y).trans (List.Perm.swap _ _ _)
theorem Nq {a b c:ByteArray} (h1:Qe a b=true) (h2:Qe b c=true):Qe a c=true:=Gs _ _ _ h1 h2
theorem Nr {a b:ByteArray} (h1:Qe a b=false) (h2:Qe b a=false):a=b:=Pn (Gt _ _ h1 h2)
theorem CZ {n:ByteArray} {f:Nat}:∀ {N:gF},jB N→(∀ x∈N,x.1≠n)→jB (nmIns n f N)
 | [],_,_=>List.pairwise_singleton _ _
 | y::r,h,hn=>by
  obtain⟨h1,h2⟩:=List.pairwise_cons.1 h
  unfold nmIns
  split
  ·rename_i hl
   refine List.pairwise_cons.2 ⟨fun z hz=>?_,h⟩
   rcases List.mem_cons.1 hz with rfl | hz
   ·exact hl
   ·exact Nq hl (h1 z hz)
  ·rename_i hl
   refine List.pairwise_cons.2 ⟨fun z hz=>?_,CZ h2 (fun x hx=>hn x (List.mem_cons_of_mem _ hx))⟩
   rcases xI.1 hz with rfl | hz
   ·show Qe y.1 n=true
    cases e:Qe y.1 n with
    | true=>rfl
    | false=>exact absurd (Nr e (by simpa using hl)) (hn y (by simp))
   ·exact h1 z hz
theorem mi {N:gF} (h:jB N) (n:ByteArray) (f:Nat):jB (iQ N n f):=
 CZ (tT h n) (fun x hx=>(fV.1 hx).2)
theorem jq {N:gF} {n:ByteArray} {f:Nat} {x:ByteArray×Nat}:x∈iQ N n f↔x=(n,f)∨(x∈N∧x.1≠n):=by
 unfold iQ;rw [xI,fV]
theorem nQ (N:gF) (n:ByteArray) (f:Nat):(iQ N n f).Perm ((n,f)::dZ N n):=AA n f _
theorem qc {N:gF} (h:jB N) (n m:ByteArray) (f:Nat):bQ (iQ N n f) m=if m=n then some f else bQ N m:=by
 have hk:=(mi h n f).keys
 split
 ·rename_i e;subst e
  exact (qa hk).2 (jq.2 (Or.inl rfl))
 ·rename_i e
  cases e2:bQ N m with
  | none=>exact jR.2 (fun x hx=>by
    rcases jq.1 hx with rfl | ⟨hx,_⟩
    ·exact fun h=>e h.symm
    ·exact jR.1 e2 x hx)
  | some g=>exact (qa hk).2 (jq.2 (Or.inr ⟨gy e2,e⟩))
theorem nR {N:gF} (h:jB N) (n m:ByteArray):bQ (dZ N n) m=if m=n then none else bQ N m:=by
 split
 ·rename_i e;subst e
  exact jR.2 (fun x hx=>(fV.1 hx).2)
 ·rename_i e
  cases e2:bQ N m with
  | none=>exact jR.2 (fun x hx=>jR.1 e2 x (fV.1 hx).1)
  | some g=>exact (qa (tT h n).keys).2 (fV.2 ⟨gy e2,e⟩)
theorem tV {N:gF} (h:(N.map (·.2)).Nodup) (n:ByteArray):((dZ N n).map (·.2)).Nodup:=h.sublist (List.filter_sublist.map _)
theorem xJ (N:gF) (n:ByteArray):(dZ N n).length≤N.length:=List.length_filter_le _ _
theorem Ns {N M:gF} {l:List ky} {c:ky} {k k':Nat} (h:zk N l M k) (hkk:k≤k') (hc:∀ a b,c=.ren a b→a≠b∧∃ f,bQ M a=some f) (hok:lJ (nmDo M c) k'):zk N (l++[c]) (nmDo M c) k':=by
 induction l generalizing N with
 | nil=>obtain⟨rfl,h0⟩:=h;exact⟨⟨h0.row,h0.ids,fun x hx=>by have:=h0.lt x hx;omega,h0.named,h0.few⟩,hc,rfl,hok⟩
 | cons c' r ih=>obtain⟨h0,h1,h2⟩:=h;exact⟨⟨h0.row,h0.ids,fun x hx=>by have:=h0.lt x hx;omega,h0.named,h0.few⟩,h1,ih h2⟩
theorem tX {N M:gF} {l:List ky} {k:Nat} (h:zk N l M k):lJ M k∧l.foldl nmDo N=M:=by
 induction l generalizing N with
 | nil=>obtain⟨rfl,h0⟩:=h;exact⟨h0,rfl⟩
 | cons c r ih=>exact ih h.2.2
theorem Nt {N M:gF} {l:List ky} {k:Nat} (h:zk N l M k) (j:Nat):zk N (l.take j) ((l.take j).foldl nmDo N) k:=by
 induction l generalizing N j with
 | nil=>obtain⟨rfl,h0⟩:=h;simp;exact⟨rfl,h0⟩
 | cons c r ih=>
  obtain⟨h0,h1,h2⟩:=h
  cases j with
  | zero=>exact⟨rfl,h0⟩
  | succ j=>exact⟨h0,h1,ih h2 j⟩
theorem Da {N M:gF} {l:List ky} {k k':Nat} (h:zk N l M k) (hk:k≤k'):zk N l M k':=by
 induction l generalizing N with
 | nil=>obtain⟨rfl,h0⟩:=h;exact⟨rfl,h0.row,h0.ids,fun x hx=>by have:=h0.lt x hx;omega,h0.named,h0.few⟩
 | cons c r ih=>obtain⟨h0,h1,h2⟩:=h;exact⟨⟨h0.row,h0.ids,fun x hx=>by have:=h0.lt x hx;omega,h0.named,h0.few⟩,h1,ih h2⟩
theorem lJ.del {N:gF} {k:Nat} (h:lJ N k) (n:ByteArray):lJ (dZ N n) k:=
 ⟨tT h.row n,tV h.ids n,fun x hx=>h.lt x (fV.1 hx).1,fun x hx=>h.named x (fV.1 hx).1,Nat.le_trans (xJ _ _) h.few⟩
theorem lJ.put {N:gF} {k:Nat} (h:lJ N k) {n:ByteArray} {f:Nat} (hf:f < k) (hn:gQ n=true) (hno:∀ x∈dZ N n,x.2≠f) (hl:(dZ N n).length < 200):lJ (iQ N n f) k:=by
 have hp:=nQ N n f
 refine⟨mi h.row n f,?_,fun x hx=>?_,fun x hx=>?_,?_⟩
 ·refine (hp.map (·.2)).nodup_iff.2 (List.nodup_cons.2 ⟨fun hm=>?_,tV h.ids n⟩)
  obtain⟨x,hx,e⟩:=List.mem_map.1 hm
  exact hno x hx e
 ·rcases jq.1 hx with rfl | ⟨hx,_⟩
  ·exact hf
  ·exact h.lt x hx
 ·rcases jq.1 hx with rfl | ⟨hx,_⟩
  ·exact hn
  ·exact h.named x hx
 ·rw [hp.length_eq,List.length_cons];omega
theorem Qg {N:gF} (h:(N.map (·.2)).Nodup) {a b:ByteArray} {f:Nat} (h1:(a,f)∈N) (h2:(b,f)∈N):a=b:=by
 induction N with
 | nil=>simp at h1
 | cons x r ih=>
  obtain⟨n1,n2⟩:=List.nodup_cons.1 h
  rcases List.mem_cons.1 h1 with e1 | h1
  ·rcases List.mem_cons.1 h2 with e2 | h2
   ·rw [← e1] at e2;cases e2;rfl
   ·exact absurd (List.mem_map_of_mem (f:=(·.2)) h2) (by rw [← e1] at n1;exact n1)
  ·rcases List.mem_cons.1 h2 with e2 | h2
   ·exact absurd (List.mem_map_of_mem (f:=(·.2)) h1) (by rw [← e2] at n1;exact n1)
   ·exact ih n2 h1 h2
theorem Qh {N:gF} {n:ByteArray} {f:Nat} (h:bQ N n=some f):(dZ N n).length < N.length:=by
 have hm:=gy h
 unfold dZ
 refine Nat.lt_of_le_of_ne (List.length_filter_le _ _) (fun e=>?_)
 have:=List.length_filter_eq_length_iff.1 e (n,f) hm
 simp at this
theorem lJ.ren {N:gF} {k:Nat} (h:lJ N k) {a b:ByteArray} {f:Nat} (ha:bQ N a=some f) (hab:a≠b) (hb:gQ b=true):lJ (nmDo N (.ren a b)) k:=by
 have hm:=gy ha
 have e:nmDo N (.ren a b)=dZ (iQ N b f) a:=by simp [nmDo,ha]
 rw [e]
 have hdp:(dZ (iQ N b f) a).Perm ((b,f)::dZ (dZ N b) a):=by
  have:=(nQ N b f).filter (fun x=>decide (x.1≠a))
  unfold dZ at this ⊢
  rwa [List.filter_cons,if_pos (by simpa using fun h=>hab h.symm)] at this
 have hl:(dZ (dZ N b) a).length < N.length:=by
  have h1:bQ (dZ N b) a=some f:=by rw [nR h.row,if_neg hab];exact ha
  have:=Qh h1
  have:=xJ N b
  omega
 refine⟨tT (mi h.row b f) a,?_,fun x hx=>?_,fun x hx=>?_,?_⟩
 ·refine (hdp.map (·.2)).nodup_iff.2 (List.nodup_cons.2 ⟨fun hm2=>?_,tV (tV h.ids b) a⟩)
  obtain⟨x,hx,e2⟩:=List.mem_map.1 hm2
  obtain⟨hx,hxa⟩:=fV.1 hx
  obtain⟨hx,_⟩:=fV.1 hx
  simp only at e2
  exact hxa (Qg h.ids (by rw [← e2];exact hx) hm)
 ·rcases jq.1 (fV.1 hx).1 with rfl | ⟨hx,_⟩
  ·exact h.lt (a,f) hm
  ·exact h.lt x hx
 ·rcases jq.1 (fV.1 hx).1 with rfl | ⟨hx,_⟩
  ·exact hb
  ·exact h.named x hx
 ·rw [hdp.length_eq,List.length_cons];have:=h.few;omega
theorem bY {d:ae} (h:aP d):aP (aC d):=
 ⟨h.dY,h.file,h.xH,Nat.le_succ_of_le h.wm,Nat.le_succ_of_le h.Ew,by have:=h.fail;show d.fail - 1≤_;omega,h.Np⟩
theorem uV {N M:gF} {l:List ky} {k:Nat} (h:zk N l M k):lJ N k:=by
 cases l with
 | nil=>exact h.2
 | cons c r=>exact h.1
theorem aP.now {d:ae} (h:aP d):lJ d.now d.files.length:=(tX h.xH).1
theorem aP.Zu {d:ae} (h:aP d):lJ d.sure d.files.length:=uV h.xH
theorem aP.at {d:ae} (h:aP d) {n:ByteArray} {i:Nat} (e:bQ d.now n=some i):i < d.files.length:=h.now.lt _ (gy e)
theorem ed {l:List FileD} {i:Nat} (hi:i < l.length) (x:FileD) (j:Nat):(l.set i x).getD j default=if j=i then x else l.getD j default:=by
 simp only [List.getD_eq_getElem?_getD]
 rw [List.getElem?_set]
 by_cases e:i=j
 ·subst e;simp [hi]
 ·rw [if_neg e,if_neg (fun e2=>e e2.symm)]
theorem jf {l:List FileD} {i:Nat} (hi:i < l.length):l.getD i default∈l:=by
 rw [List.getD_eq_getElem?_getD,List.getElem?_eq_getElem hi];simp
theorem sF {d:ae} (h:aP d) {i:Nat} {x:FileD} (hx:x.b.length≤1048576∧x.sure≤x.b.length):aP (iE d i x):=by
 refine⟨h.dY,fun f hf=>?_,by simpa [iE] using h.xH,h.wm,by simpa [iE] using h.Ew,h.fail,h.Np⟩
 rcases List.mem_or_eq_of_mem_set hf with hf | rfl
 ·exact h.file f hf
 ·exact hx
theorem uW {d:ae} (h:aP d) {c:ky} (hc:∀ a b,c=.ren a b→a≠b∧∃ f,bQ d.now a=some f) (hok:lJ (nmDo d.now c) d.files.length) (ho:d.ch.length+1≤d.ops) (hr:∀ n,c=.rem n→n.size≤16):aP (bq d c):=
 ⟨h.dY,h.file,Ns h.xH (Nat.le_refl _) hc hok,by simpa [bq] using ho,h.Ew,h.fail,fun n hn=>by
  rcases List.mem_append.1 hn with hn | hn
  ·exact h.Np n hn
  ·simp at hn;exact hr n hn.symm⟩
theorem fE (d:ae) (n:ByteArray) (b:List UInt8) :
  (∃ e,aH d n b=(aC d,e)∧(e=8∨e=1∨e=7)) ∨
  (¬ dE d∧gQ n=true∧jW d (bQ d.now n) b.length=true ∧
   ((∃ i,bQ d.now n=some i∧aH d n b=(je (aC d) i b,0)) ∨
     (bQ d.now n=none∧aH d n b=(je (bq (dR (aC d)) (.made n d.files.length)) d.files.length b,0)))):=by
 unfold aH
 by_cases h1:dE d
 ·rw [if_pos h1];exact Or.inl ⟨8,rfl,by simp⟩
 ·rw [if_neg h1]
  by_cases h2:gQ n=false
  ·rw [if_pos h2];exact Or.inl ⟨1,rfl,by simp⟩
  ·rw [if_neg h2]
   by_cases h3:jW d (bQ d.now n) b.length=false
   ·rw [if_pos h3];exact Or.inl ⟨7,rfl,by simp⟩
   ·rw [if_neg h3]
    refine Or.inr ⟨h1,by simpa using h2,by simpa using h3,?_⟩
    cases e:bQ d.now n with
    | some i=>exact Or.inl ⟨i,rfl,rfl⟩
    | none=>exact Or.inr ⟨rfl,rfl⟩
theorem iJ (d:ae) (n:ByteArray):(∃ e,aW d n=(aC d,e)∧(e=8∨e=6)) ∨
  (¬ dE d∧∃ i,bQ d.now n=some i∧aW d n=(iE (aC d) i ⟨(d.files.getD i default).b,(d.files.getD i default).b.length⟩,0)):=by
 unfold aW
 by_cases h1:dE d
 ·rw [if_pos h1];exact Or.inl ⟨8,rfl,by simp⟩
 ·rw [if_neg h1]
  cases e:bQ d.now n with
  | some i=>exact Or.inr ⟨h1,i,rfl,rfl⟩
  | none=>exact Or.inl ⟨6,rfl,by simp⟩
theorem AJ (d:ae) (n:ByteArray) (k:Int):(∃ e,lI d n k=(aC d,e)∧(e=8∨e=6∨e=1)) ∨
  (¬ dE d∧∃ i,bQ d.now n=some i∧0≤k∧k≤eX d i∧lI d n k=(iE (aC d) i ⟨(d.files.getD i default).b.take k.toNat,k.toNat⟩,0)):=by
 unfold lI
 by_cases h1:dE d
 ·rw [if_pos h1];exact Or.inl ⟨8,rfl,by simp⟩
 ·rw [if_neg h1]
  cases e:bQ d.now n with
  | some i=>
   by_cases h2:k < 0∨(eX d i:Int) < k
   ·simp only;rw [if_pos h2];exact Or.inl ⟨1,rfl,by simp⟩
   ·simp only;rw [if_neg h2];exact Or.inr ⟨h1,i,rfl,by omega,by omega,rfl⟩
  | none=>exact Or.inl ⟨6,rfl,by simp⟩
theorem jr (d:ae) (a b:ByteArray):(∃ e,bZ d a b=(aC d,e)∧(e=8∨e=6∨e=1)) ∨
  (¬ dE d∧(∃ i,bQ d.now a=some i)∧gQ b=true∧((a=b∧bZ d a b=(aC d,0))∨(a≠b∧bZ d a b=(bq (aC d) (.ren a b),0)))):=by
 unfold bZ
 by_cases h1:dE d
 ·rw [if_pos h1];exact Or.inl ⟨8,rfl,by simp⟩
 ·rw [if_neg h1]
  cases e:bQ d.now a with
  | some i=>
   simp only
   by_cases h2:gQ b=false
   ·rw [if_pos h2];exact Or.inl ⟨1,rfl,by simp⟩
   ·rw [if_neg h2]
    refine Or.inr ⟨h1,⟨i,rfl⟩,by simpa using h2,?_⟩
    by_cases h3:a=b
    ·rw [if_pos h3];exact Or.inl ⟨h3,rfl⟩
    ·rw [if_neg h3];exact Or.inr ⟨h3,rfl⟩
  | none=>exact Or.inl ⟨6,rfl,by simp⟩
theorem kz (d:ae) (n:ByteArray):(∃ e,cZ d n=(aC d,e)∧(e=8∨e=6)) ∨
  (¬ dE d∧(∃ i,bQ d.now n=some i)∧cZ d n=(bq (aC d) (.rem n),0)):=by
 unfold cZ
 by_cases h1:dE d
 ·rw [if_pos h1];exact Or.inl ⟨8,rfl,by simp⟩
 ·rw [if_neg h1]
  cases e:bQ d.now n with
  | some i=>exact Or.inr ⟨h1,⟨i,rfl⟩,rfl⟩
  | none=>exact Or.inl ⟨6,rfl,by simp⟩
theorem gz (d:ae):bE d=(aC d,8)∨(¬ dE d∧bE d=(ma (aC d),0)):=by
 unfold bE
 by_cases h1:dE d
 ·rw [if_pos h1];exact Or.inl rfl
 ·rw [if_neg h1];exact Or.inr ⟨h1,rfl⟩
/-! A disk that may be stays one. -/
theorem Db {d:ae} (h:aP d) {i:Nat} (hi:i < d.files.length) {b:List UInt8} (hb:b.length+eX d i≤1048576):aP (je d i b):=by
 refine sF h ⟨?_,?_⟩
 ·simp only [List.length_append];unfold eX at hb;omega
 ·have:=(h.file _ (jf hi)).2
  simp only [List.length_append];omega
theorem xK {d:ae} {f:Option Nat} {n:Nat}:jW d f n=true↔(fT d≤d.dY∧n+fT d≤d.dY∧n+(match f with | some i=>eX d i | none=>0)≤1048576∧(f=none→d.now.length < 200)):=by
 unfold jW;exact decide_eq_true_iff
theorem AL {N:gF} {n:ByteArray} (h:bQ N n=none):dZ N n=N:=
 List.filter_eq_self.2 (fun x hx=>by simpa using jR.1 h x hx)
theorem iy {d:ae} (h:aP d) (n:ByteArray) (b:List UInt8):aP (aH d n b).1:=by
 rcases fE d n b with ⟨e,h1,_⟩|⟨_,hn,hr,⟨i,h1,h2⟩|⟨h1,h2⟩⟩
 ·rw [h1];exact bY h
 ·rw [h2]
  rw [h1] at hr
  exact Db (bY h) (h.at h1) (xK.1 hr).2.2.1
 ·rw [h2]
  rw [h1] at hr
  have hr':=xK.1 hr
  have hk:aP (dR (aC d)):=by
   refine⟨h.dY,fun f hf=>?_,Da h.xH (by simp [dR,aC]),Nat.le_succ_of_le h.wm,by have:=h.Ew;simp [dR,aC];omega,(bY h).fail,h.Np⟩
   rcases List.mem_append.1 hf with hf | hf
   ·exact h.file f hf
   ·simp at hf;subst hf;simp
  have hkn:=hk.now
  refine Db (uW hk (fun a b e=>by cases e) ?_ ?_ (fun n e=>by cases e)) (by simp [bq,dR,aC]) ?_
  ·show lJ (iQ d.now n d.files.length) _
   refine lJ.put hkn (by simp [dR,aC]) hn (fun x hx e=>?_) (by rw [show (dR (aC d)).now=d.now from rfl,AL h1];exact hr'.2.2.2 rfl)
   have:=h.now.lt x (fV.1 hx).1
   omega
  ·have:=h.wm;simp [dR,aC];omega
  ·have:=hr'.2.2.1
   simp only [eX,bq,dR,aC,List.getD_eq_getElem?_getD]
   simpa using this
theorem gU {d:ae} (h:aP d) (n:ByteArray):aP (aW d n).1:=by
 rcases iJ d n with ⟨e,h1,_⟩|⟨_,i,h1,h2⟩
 ·rw [h1];exact bY h
 ·rw [h2];exact sF (bY h) ⟨(h.file _ (jf (h.at h1))).1,Nat.le_refl _⟩
theorem LZ {d:ae} (h:aP d) (n:ByteArray) (k:Int):aP (lI d n k).1:=by
 rcases AJ d n k with ⟨e,h1,_⟩|⟨_,i,h1,h0,hk,h2⟩
 ·rw [h1];exact bY h
 ·rw [h2]
  have:=(h.file _ (jf (h.at h1))).1
  refine sF (bY h) ⟨?_,?_⟩
  ·simp only [List.length_take];omega
  ·unfold eX at hk;simp only [List.length_take];omega
theorem rq {d:ae} (h:aP d) (a b:ByteArray):aP (bZ d a b).1:=by
 rcases jr d a b with ⟨e,h1,_⟩|⟨_,⟨i,h1⟩,hb,⟨h2,h3⟩|⟨h2,h3⟩⟩
 ·rw [h1];exact bY h
 ·rw [h3];exact bY h
 ·rw [h3]
  refine uW (bY h) (fun x y e=>by cases e;exact⟨h2,i,h1⟩) ?_ (Nat.succ_le_succ h.wm) (fun n e=>by cases e)
  exact h.now.ren h1 h2 hb
theorem nS {d:ae} (h:aP d) (n:ByteArray):aP (cZ d n).1:=by
 rcases kz d n with ⟨e,h1,_⟩|⟨_,⟨i,h1⟩,h2⟩
 ·rw [h1];exact bY h
 ·rw [h2];exact uW (bY h) (fun x y e=>by cases e) (h.now.del n) (Nat.succ_le_succ h.wm) (fun m e=>by
   cases e
   have:=h.now.named _ (gy h1)
   have h3:1≤n.size∧n.size≤16:=of_decide_eq_true this
   exact h3.2)
theorem yN {d:ae} (h:aP d):aP (bE d).1:=by
 rcases gz d with h1 | ⟨_,h2⟩
 ·rw [h1];exact bY h
 ·rw [h2];exact⟨h.dY,h.file,⟨rfl,h.now⟩,Nat.zero_le _,Nat.le_succ_of_le h.Ew,(bY h).fail,fun n hn=>by simp [ma] at hn⟩
theorem wo (q:Int):aP (jF q):=by
 refine⟨by simp [jF];omega,fun f hf=>by simp [jF] at hf,⟨rfl,⟨List.Pairwise.nil,List.nodup_nil,by simp [jF],by simp [jF],by simp [jF]⟩⟩,Nat.le_refl _,Nat.le_refl _,by simp [jF],by simp [jF]⟩
theorem qd (p:List UInt8) (n:Nat):pickN p n≤n:=by
 unfold pickN;split
 ·omega
 ·have:=Nat.mod_lt (y:=n+1) (‹UInt8›.toNat) (by omega);omega
theorem jC:∀ (N:gF) (fs:List FileD) (p:List UInt8),(crashFiles N fs p).length=fs.length
 | [],_,_=>rfl
 | x::r,fs,p=>by unfold crashFiles;rw [jC r];simp
theorem sG:∀ (N:gF) (fs:List FileD) (p:List UInt8),(∀ x∈N,x.2 < fs.length)→(∀ f∈fs,f.b.length≤1048576∧f.sure≤f.b.length)→∀ f∈crashFiles N fs p,f.b.length≤1048576∧f.sure≤f.b.length
 | [],_,_,_,h=>h
 | x::r,fs,p,hl,h=>by
  unfold crashFiles
  refine sG r _ _ (fun y hy=>by rw [List.length_set];exact hl y (List.mem_cons_of_mem _ hy)) (fun f hf=>?_)
  rcases List.mem_or_eq_of_mem_set hf with hf | rfl
  ·exact h f hf
  ·obtain⟨h1,h2⟩:=h _ (jf (hl x (by simp)))
   have:=qd p ((fs.getD x.2 default).b.length - (fs.getD x.2 default).sure)
   simp only [Ay,List.length_take];omega
theorem pF {d:ae} (h:aP d) (p:List UInt8):lJ (iL d p) d.files.length:=(tX (Nt h.xH _)).1
theorem Dc {d:ae} (h:aP d) (p:List UInt8):aP (iw d p):=by
 have hn:=pF h p
 refine⟨h.dY,sG _ _ _ hn.lt h.file,⟨rfl,?_⟩,Nat.zero_le _,?_,by simp [iw],by simp [iw]⟩
 ·show lJ (iL d p) (crashFiles _ _ _).length
  rw [jC];exact hn
 ·show (crashFiles _ _ _).length≤d.ops
  rw [jC];exact h.Ew
theorem Ex (d:ae) (n m:ByteArray) (b:List UInt8) (k:Int):(aH d n b).1.ops=d.ops+1∧(aW d n).1.ops=d.ops+1∧(lI d n k).1.ops=d.ops+1∧(bZ d n m).1.ops=d.ops+1∧(cZ d n).1.ops=d.ops+1∧(bE d).1.ops=d.ops+1:=by
 refine⟨?_,?_,?_,?_,?_,?_⟩
 ·rcases fE d n b with ⟨e,h1,_⟩|⟨_,_,_,⟨i,_,h2⟩|⟨_,h2⟩⟩ <;> simp_all [aC,je,bq,iE,dR]
 ·rcases iJ d n with ⟨e,h1,_⟩|⟨_,i,h1,h2⟩ <;> simp_all [aC,iE,ma]
 ·rcases AJ d n k with ⟨e,h1,_⟩|⟨_,i,h1,_,_,h2⟩ <;> simp_all [aC,iE,ma]
 ·rcases jr d n m with ⟨e,h1,_⟩|⟨_,_,_,⟨_,h2⟩|⟨_,h2⟩⟩ <;> simp_all [aC,bq]
 ·rcases kz d n with ⟨e,h1,_⟩|⟨_,_,h2⟩ <;> simp_all [aC,bq]
 ·rcases gz d with h1 | ⟨_,h2⟩ <;> simp_all [aC,iE,ma]
/-! What an operation on other names leaves. -/
def agree (K:ByteArray→Prop) (N M:gF):Prop:=∀ n,K n→bQ N n=bQ M n
def oN (d:ae) (N:gF):Prop:=∃ j,j≤d.ch.length∧N=(d.ch.take j).foldl nmDo d.sure
structure dJ (K:ByteArray→Prop) (d d':ae):Prop where
 names:agree K d'.now d.now
 files:∀ n i,K n→bQ d.now n=some i→d'.files.getD i default=d.files.getD i default
 states:∀ N,oN d' N→oN d N∨agree K N d.now
theorem dJ.refl (K:ByteArray→Prop) (d:ae):dJ K d d:=⟨fun _ _=>rfl,fun _ _ _ _=>rfl,fun N h=>Or.inl h⟩
theorem dJ.trans {K:ByteArray→Prop} {a b c:ae} (h1:dJ K a b) (h2:dJ K b c):dJ K a c:=by
 refine⟨fun n hn=>(h2.names n hn).trans (h1.names n hn),fun n i hn hi=>?_,fun N hN=>?_⟩
 ·rw [h2.files n i hn (by rw [h1.names n hn];exact hi),h1.files n i hn hi]
 ·rcases h2.states N hN with h | h
  ·exact h1.states N h
  ·exact Or.inr (fun n hn=>(h n hn).trans (h1.names n hn))
theorem dJ.same {K:ByteArray→Prop} {d d':ae} (h1:d'.now=d.now) (h2:d'.files=d.files) (h3:d'.ch=d.ch) (h4:d'.sure=d.sure):dJ K d d':=
 ⟨fun _ _=>by rw [h1],fun _ _ _ _=>by rw [h2],fun N hN=>Or.inl (by unfold oN at *;rwa [h3,h4] at hN)⟩
theorem dJ.tick (K:ByteArray→Prop) (d:ae):dJ K d (aC d):=dJ.same rfl rfl rfl rfl
theorem uA {d:ae} (h:aP d) {c:ky} {N:gF} (hN:oN (bq d c) N):oN d N∨N=nmDo d.now c:=by
 obtain⟨j,hj,rfl⟩:=hN
 simp only [bq,List.length_append,List.length_cons,List.length_nil] at hj
 by_cases e:j≤d.ch.length
 ·exact Or.inl ⟨j,e,by simp only [bq];rw [List.take_append_of_le_length e]⟩
 ·obtain rfl:j=d.ch.length+1:=by omega
  right
  simp only [bq]
  rw [List.take_of_length_le (by simp),List.foldl_append,(tX h.xH).2]
  rfl
theorem dJ.file {K:ByteArray→Prop} {d:ae} (h:aP d) {n:ByteArray} (hn:¬ K n) {i:Nat} (hi:bQ d.now n=some i) (x:FileD):dJ K d (iE d i x):=by
 refine⟨fun _ _=>rfl,fun m j hm hj=>?_,fun N hN=>Or.inl hN⟩
 show (d.files.set i x).getD j default=_
 rw [ed (h.at hi)]
 split
 ·rename_i e;subst e
  have:=Qg h.now.ids (gy hi) (gy hj)
  subst this;exact absurd hm hn
 ·rfl
theorem dJ.change {K:ByteArray→Prop} {d:ae} (h:aP d) {c:ky} (hc:agree K (nmDo d.now c) d.now):dJ K d (bq d c):=
 ⟨hc,fun _ _ _ _=>rfl,fun N hN=>by
  rcases uA h hN with h1 | rfl
  ·exact Or.inl h1
  ·exact Or.inr hc⟩
theorem De {K:ByteArray→Prop} {N:gF} (h:jB N) {n:ByteArray} (hn:¬ K n) (f:Nat):agree K (iQ N n f) N:=fun m hm=>by
 rw [qc h,if_neg (fun e=>hn (by rw [← e];exact hm))]
theorem Nu {K:ByteArray→Prop} {N:gF} (h:jB N) {n:ByteArray} (hn:¬ K n):agree K (dZ N n) N:=fun m hm=>by
 rw [nR h,if_neg (fun e=>hn (by rw [← e];exact hm))]
theorem dJ.append {K:ByteArray→Prop} {d:ae} (h:aP d) {n:ByteArray} (hn:¬ K n) (b:List UInt8):dJ K d (aH d n b).1:=by
 rcases fE d n b with ⟨e,h1,_⟩|⟨_,hnm,hr,⟨i,h1,h2⟩|⟨h1,h2⟩⟩
 ·rw [h1];exact dJ.tick K d
 ·rw [h2];exact (dJ.tick K d).trans (dJ.file (bY h) hn h1 _)
 ·rw [h2]
  have g:dJ K d (bq (dR (aC d)) (.made n d.files.length)):=by
   refine⟨De h.now.row hn _,fun m j hm hj=>?_,fun N hN=>?_⟩
   ·have:=h.at hj
    simp only [bq,dR,aC,List.getD_eq_getElem?_getD]
    rw [List.getElem?_append_left this]
   ·obtain⟨j,hj,rfl⟩:=hN
    simp only [bq,dR,aC,List.length_append,List.length_cons,List.length_nil] at hj
    by_cases e:j≤d.ch.length
    ·exact Or.inl ⟨j,e,by simp only [bq,dR,aC];rw [List.take_append_of_le_length e]⟩
    ·obtain rfl:j=d.ch.length+1:=by omega
     right
     simp only [bq,dR,aC]
     rw [List.take_of_length_le (by simp),List.foldl_append,(tX h.xH).2]
     exact De h.now.row hn _
  refine g.trans ⟨fun _ _=>rfl,fun m j hm hj=>?_,fun N hN=>Or.inl hN⟩
  simp only [je,iE]
  rw [ed (by simp [bq,dR,aC])]
  split
  ·rename_i e;subst e
   rw [g.names m hm] at hj
   have:=h.at hj;omega
  ·rfl
theorem dJ.sync {K:ByteArray→Prop} {d:ae} (h:aP d) {n:ByteArray} (hn:¬ K n):dJ K d (aW d n).1:=by
 rcases iJ d n with ⟨e,h1,_⟩|⟨_,i,h1,h2⟩
 ·rw [h1];exact dJ.tick K d
 ·rw [h2];exact (dJ.tick K d).trans (dJ.file (bY h) hn h1 _)
theorem dJ.remove {K:ByteArray→Prop} {d:ae} (h:aP d) {n:ByteArray} (hn:¬ K n):dJ K d (cZ d n).1:=by
 rcases kz d n with ⟨e,h1,_⟩|⟨_,⟨i,h1⟩,h2⟩
 ·rw [h1];exact dJ.tick K d
 ·rw [h2];exact (dJ.tick K d).trans (dJ.change (bY h) (Nu h.now.row hn))
structure dw where
 aj:Nat
 next:Nat
 aa:List Nat
deriving DecidableEq,Inhabited
structure bK where
 size:Nat
 m:dw
 loose:Bool
deriving DecidableEq,Inhabited
def bL:ByteArray:=⟨#[109]⟩
def aB:ByteArray:=⟨#[109,46,110,101,119]⟩
def zl (n k:Nat):UInt8:=UInt8.ofNat (48+n / 10 ^ k % 10)
def ai (s:Nat):ByteArray:=if s < 1∨1000000≤s then ByteArray.empty else ⟨#[115,zl s 5,zl s 4,zl s 3,zl s 2,zl s 1,zl s 0]⟩
def upB (b:Nat):Nat→List Nat→Bool
 | _,[]=>true
 | was,s::r=>decide (was < s∧s < b) && upB b s r
def fM (m:dw):Bool:=decide (1≤m.aj∧m.aj≤3∧1≤m.aa.length∧m.aa.length≤64∧1≤m.next∧m.next≤1000000) && upB m.next 0 m.aa
def jD (m:dw):List UInt8:=be m.next 4++be m.aa.length 2++(m.aa.map (fun s=>be s 4)).flatten
def eu (m:dw):cB:=⟨100,m.aj,jD m⟩
def nT (m:dw):List UInt8×Int:=if fM m then (ak (eu m),0) else ([],1)
def bR {σ:Type} (r:σ×Int) (f:σ→σ×Int):σ×Int:=if r.2=0 then f r.1 else r
def bF (n:ByteArray) (d:ae):ae×Int:=if (bQ d.now n).isSome then cZ d n else (d,0)
def dK (s:Nat) (d:ae):ae×Int:=bR (bF (ai s) d) (fun d=>aH d (ai s) [])
def eQ (m:dw) (d:ae):ae×Int:=
 bR (bR (bR (bF aB d) (fun d=>aH d aB (ak (eu m)))) (fun d=>aW d aB)) (fun d=>bZ d aB bL)
def aK (m:dw) (d:ae):ae×Bool×Int:=
 if fM m=false then (d,false,1)
 else if (eQ m d).2≠0 then ((eQ m d).1,false,(eQ m d).2)
 else ((bE (eQ m d).1).1,true,(bE (eQ m d).1).2)
def sized (n:Int):Nat:=(max 16 (min n 1048576)).toNat
def firstM (v:Nat):dw:=⟨v,2,[1]⟩
def cu (v size:Int) (d:ae):ae×Option bK×Int:=
 if v < 1∨3 < v then (d,none,10)
 else if (bQ d.now bL).isSome then (d,none,12)
 else
  let r:=bR (bR (dK 1 d) (fun d=>aW d (ai 1))) (fun d=>((aK (firstM v.toNat) d).1,(aK (firstM v.toNat) d).2.2))
  if r.2≠0 then (r.1,none,r.2) else (r.1,some ⟨sized size,firstM v.toNat,false⟩,0)
abbrev DL:=ae×bK
def bA (l:bK):ByteArray:=ai (l.m.aa.getLastD 0)
def bytesD (d:ae) (n:ByteArray):Nat:=((gY d n).getD []).length
def lK (l:bK) (have' more:Nat):Bool:=decide (have'=0∨have'+more≤l.size)
def gT (f:ae→ae×Int) (s:DL):DL×Int:=(((f s.1).1,s.2),(f s.1).2)
def aY (s:DL):DL×Int:=
 if s.2.loose then (((bE s.1).1,{ s.2 with loose:=decide ((bE s.1).2≠0) }),(bE s.1).2) else (s,0)
def dI (m:dw) (s:DL):DL×Bool×Int:=
 (((aK m s.1).1,if (aK m s.1).2.1 then { s.2 with m:=m,loose:=decide ((aK m s.1).2.2≠0) } else s.2),(aK m s.1).2.1,(aK m s.1).2.2)
def gL (l:bK):dw:=⟨l.m.aj,l.m.next+1,l.m.aa++[l.m.next]⟩
def gD (s:DL):DL×Int:=
 if 64≤s.2.m.aa.length then (s,4) else
 bR (bR (bR (gT (fun d=>aW d (bA s.2)) s) (gT (dK s.2.m.next))) (gT (fun d=>aW d (ai s.2.m.next)))) (fun t=>((dI (gL s.2) t).1,(dI (gL s.2) t).2.2))
def bW (kind:Int) (body:List UInt8) (s:DL):DL×Int:=
 if gq kind s.2.m.aj body.length≠0 then (s,gq kind s.2.m.aj body.length) else
 bR (bR (aY s) (fun t=>if lK t.2 (bytesD t.1 (bA t.2)) (ak ⟨kind.toNat,s.2.m.aj,body⟩).length then (t,0) else gD t))
  (fun t=>gT (fun d=>aH d (bA t.2) (ak ⟨kind.toNat,s.2.m.aj,body⟩)) t)
def fw (s:DL):DL×Int:=bR (aY s) (fun t=>gT (fun d=>aW d (bA t.2)) t)
def dN (nx:Nat) (b:List UInt8) (s:ae×List Nat×Nat):(ae×List Nat×Nat)×Int:=
 if 64≤s.2.1.length then (s,4)
 else if (bF (ai (nx+s.2.1.length)) s.1).2≠0 then (((bF (ai (nx+s.2.1.length)) s.1).1,s.2),(bF (ai (nx+s.2.1.length)) s.1).2)
 else (((aH (bF (ai (nx+s.2.1.length)) s.1).1 (ai (nx+s.2.1.length)) b).1,s.2.1++[nx+s.2.1.length],b.length),(aH (bF (ai (nx+s.2.1.length)) s.1).1 (ai (nx+s.2.1.length)) b).2)
def newest (aa:List Nat):ByteArray:=ai (aa.getLastD 0)
def jh (l:bK) (b:List UInt8) (s:ae×List Nat×Nat):(ae×List Nat×Nat)×Int:=
 if s.2.1=[] then dN l.m.next b s
 else if lK l s.2.2 b.length then (((aH s.1 (newest s.2.1) b).1,s.2.1,s.2.2+b.length),(aH s.1 (newest s.2.1) b).2)
 else bR (((aW s.1 (newest s.2.1)).1,s.2),(aW s.1 (newest s.2.1)).2) (dN l.m.next b)
def rowsD (l:bK):List (List UInt8)→(ae×List Nat×Nat)→(ae×List Nat×Nat)×Int
 | [],s=>(s,0)
 | b::r,s=>bR (jh l b s) (rowsD l r)
def fH (l:bK) (rows:List (List UInt8)) (d:ae):(ae×List Nat×Nat)×Int:=
 bR (bR (rowsD l rows (d,[],0)) (fun s=>if s.2.1=[] then dN l.m.next [] s else (s,0)))
  (fun s=>(((aW s.1 (newest s.2.1)).1,s.2),(aW s.1 (newest s.2.1)).2))
def dropD:List Nat→ae→ae
 | [],d=>d
 | s::r,d=>dropD r (bF (ai s) d).1
def iB:List Nat→ae→ae
 | [],d=>d
 | s::r,d=>iB r (cZ d (ai s)).1
def iG (aj:Nat) (l:bK) (aa:List Nat):dw:=⟨aj,l.m.next+aa.length,aa⟩
def gM (aj:Nat) (rows:List (List UInt8)) (s:DL):DL×Int:=
 if (aY s).2≠0 then aY s else
 let t:=(aY s).1
 let r:=fH t.2 rows t.1
 if r.2≠0 then ((dropD r.1.2.1 r.1.1,t.2),r.2) else
 let a:=dI (iG aj t.2 r.1.2.1) (r.1.1,t.2)
 if a.2.2=0 then ((iB t.2.m.aa a.1.1,a.1.2),0)
 else if a.2.1 then (a.1,a.2.2) else ((dropD r.1.2.1 a.1.1,a.1.2),a.2.2)
def tellAll {σ:Type} (each:σ→cB→σ×Int) (aj:Nat):List cB→σ→σ×Int
 | [],s=>(s,0)
 | f::r,s=>if f.aj≠aj then (s,3) else if (each s f).2≠0 then each s f else tellAll each aj r (each s f).1
def dX {σ:Type} (each:σ→cB→σ×Int) (d:ae) (m:dw) (i:Nat) (s:σ):σ×Nat×Int:=
 match gY d (ai (m.aa.getD i 0)) with
 | none=>(s,0,6)
 | some b=>
  if (bO b).2.2≠0∧i+1 < m.aa.length then (s,0,3)
  else if (tellAll each m.aj (bO b).1 s).2≠0 then ((tellAll each m.aj (bO b).1 s).1,0,(tellAll each m.aj (bO b).1 s).2)
  else ((tellAll each m.aj (bO b).1 s).1,(bO b).2.1,0)
def scanAll {σ:Type} (each:σ→cB→σ×Int) (d:ae) (m:dw):Nat→Nat→Nat→σ→σ×Nat×Int
 | 0,_,n,s=>(s,n,0)
 | k+1,i,_,s=>if (dX each d m i s).2.2≠0 then dX each d m i s else scanAll each d m k (i+1) (dX each d m i s).2.1 (dX each d m i s).1
def bD (b:List UInt8):dw×Int:=
 if (bf b).2.2≠0 then (default,(bf b).2.2)
 else if (bf b).2.1 < b.length∨(bf b).1.kind≠100 then (default,3)
 else if (bf b).1.aj < 1∨3 < (bf b).1.aj then (default,10)
 else
  let x:=(bf b).1.body
  let k:=num ((x.drop 4).take 2)
  let m:dw:=⟨(bf b).1.aj,num (x.take 4),(List.range k).map (fun j=>num ((x.drop (6+4 * j)).take 4))⟩
  if x.length=6+4 * k∧fM m then (m,0) else (default,3)
def dB {σ:Type} (each:σ→cB→σ×Int) (size:Int) (d:ae) (s:σ):σ×ae×Option bK×Int:=
 match gY d bL with
 | none=>(s,d,none,6)
 | some b=>
  if (bD b).2≠0 then (s,d,none,(bD b).2) else
  let m:=(bD b).1
  let l:bK:=⟨sized size,m,false⟩
  let r:=scanAll each d m m.aa.length 0 0 s
  if r.2.2≠0 then (r.1,d,none,r.2.2) else
  let e:=bR (bR (if r.2.1=bytesD d (bA l) then (d,0) else lI d (bA l) r.2.1) (fun d=>aW d (bA l))) bE
  if e.2≠0 then (r.1,e.1,none,e.2) else (r.1,e.1,some l,0)
def jX (s:DL):Nat:=(s.2.m.aa.map (fun x=>bytesD s.1 (ai x))).sum
end Go.Proofs.YtogclkhpbjfadaaGreat
