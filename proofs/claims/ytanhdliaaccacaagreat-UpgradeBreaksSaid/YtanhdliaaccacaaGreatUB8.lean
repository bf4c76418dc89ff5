/- .. -/
import Derived.Test.YtanhdliaaccacaaGreatUB1
import Derived.Test.YtanhdliaaccacaaGreatUB3
namespace Go.Proofs.YtanhdliaaccacaaGreat
open Go.RowKit
set_option linter.unusedVariables false
set_option maxHeartbeats 64000000
set_option maxRecDepth 100000
structure FileD where
 b:List UInt8
 sure:Nat
deriving DecidableEq,Inhabited
inductive ky where
 | made (n:ByteArray) (f:Nat)
 | ren (a b:ByteArray)
 | rem (n:ByteArray)
deriving DecidableEq
abbrev gI:=List (ByteArray×Nat)
structure ae where
 dZ:Nat
 files:List FileD
 now:gI
 sure:gI
 ch:List ky
 ops:Nat
 fail:Nat
def Qr (a b:ByteArray):Bool:=bl a.data.toList b.data.toList
def bP (N:gI) (n:ByteArray):Option Nat:=(N.find? (fun x=>decide (x.1=n))).map (·.2)
def ed (N:gI) (n:ByteArray):gI:=N.filter (fun x=>decide (x.1≠n))
def nmIns (n:ByteArray) (f:Nat):gI→gI
 | []=>[(n,f)]
 | x::r=>if Qr n x.1 then (n,f)::x::r else x::nmIns n f r
def iN (N:gI) (n:ByteArray) (f:Nat):gI:=nmIns n f (ed N n)
def nmDo (N:gI):ky→gI
 | .made n f=>iN N n f
 | .ren a b=>match bP N a with
  | some f=>ed (iN N b f) a
  | none=>N
 | .rem n=>ed N n
def gU (n:ByteArray):Bool:=decide (1≤n.size∧n.size≤16)
def fw (d:ae) (i:Nat):Nat:=(d.files.getD i default).b.length
def fU (d:ae):Nat:=(d.now.map (fun x=>fw d x.2)).sum
def iU (dZ:Int):ae:=⟨(max 0 (min dZ 67108864)).toNat,[],[],[],[],0,0⟩
def nA (d:ae) (n:Int):ae:={ d with fail:=if 1≤n∧n≤4611686018427387904 then n.toNat else 0 }
def aD (d:ae):ae:=⟨d.dZ,d.files,d.now,d.sure,d.ch,d.ops+1,d.fail - 1⟩
def iE (d:ae) (i:Nat) (x:FileD):ae:=⟨d.dZ,d.files.set i x,d.now,d.sure,d.ch,d.ops,d.fail⟩
def dU (d:ae):ae:=⟨d.dZ,d.files++[⟨[],0⟩],d.now,d.sure,d.ch,d.ops,d.fail⟩
def dC (d:ae):Prop:=d.fail=1
instance (d:ae):Decidable (dC d):=inferInstanceAs (Decidable (d.fail=1))
def nC (d:ae):ae:=⟨d.dZ,d.files,d.now,d.now,[],d.ops,d.fail⟩
def bu (d:ae) (c:ky):ae:=⟨d.dZ,d.files,nmDo d.now c,d.sure,d.ch++[c],d.ops,d.fail⟩
def jd (d:ae) (i:Nat) (b:List UInt8):ae:=iE d i ⟨(d.files.getD i default).b++b,(d.files.getD i default).sure⟩
def jW (d:ae) (f:Option Nat) (n:Nat):Bool:=
 decide (fU d≤d.dZ∧n+fU d≤d.dZ∧n+(match f with | some i=>fw d i | none=>0)≤1048576∧(f=none→d.now.length < 200))
def aI (d:ae) (n:ByteArray) (b:List UInt8):ae×Int:=
 if dC d then (aD d,8) else
 if gU n=false then (aD d,1) else
 if jW d (bP d.now n) b.length=false then (aD d,7) else
 match bP d.now n with
 | some i=>(jd (aD d) i b,0)
 | none=>(jd (bu (dU (aD d)) (.made n d.files.length)) d.files.length b,0)
def aW (d:ae) (n:ByteArray):ae×Int:=
 if dC d then (aD d,8) else
 match bP d.now n with
 | some i=>(iE (aD d) i ⟨(d.files.getD i default).b,(d.files.getD i default).b.length⟩,0)
 | none=>(aD d,6)
def kJ (d:ae) (n:ByteArray) (k:Int):ae×Int:=
 if dC d then (aD d,8) else
 match bP d.now n with
 | some i=>if k < 0∨(fw d i:Int) < k then (aD d,1) else (iE (aD d) i ⟨(d.files.getD i default).b.take k.toNat,k.toNat⟩,0)
 | none=>(aD d,6)
def bZ (d:ae) (a b:ByteArray):ae×Int:=
 if dC d then (aD d,8) else
 match bP d.now a with
 | some i=>if gU b=false then (aD d,1) else if a=b then (aD d,0) else (bu (aD d) (.ren a b),0)
 | none=>(aD d,6)
def cO (d:ae) (n:ByteArray):ae×Int:=
 if dC d then (aD d,8) else
 match bP d.now n with
 | some i=>(bu (aD d) (.rem n),0)
 | none=>(aD d,6)
def bF (d:ae):ae×Int:=
 if dC d then (aD d,8) else (nC (aD d),0)
def iy (d:ae) (n:ByteArray):Option (List UInt8):=(bP d.now n).map (fun i=>(d.files.getD i default).b)
def iA (d:ae):List ByteArray:=d.now.map (·.1)
def pickN (p:List UInt8) (n:Nat):Nat:=match p with
 | []=>0
 | x::_=>x.toNat % (n+1)
def Az (f:FileD) (k:Nat):FileD:=⟨f.b.take (f.sure+k),f.sure+k⟩
def crashFiles:gI→List FileD→List UInt8→List FileD
 | [],fs,_=>fs
 | x::r,fs,p=>crashFiles r (fs.set x.2 (Az (fs.getD x.2 default) (pickN p ((fs.getD x.2 default).b.length - (fs.getD x.2 default).sure)))) p.tail
def iI (d:ae) (p:List UInt8):gI:=(d.ch.take (pickN p d.ch.length)).foldl nmDo d.sure
def gz (d:ae) (p:List UInt8):ae:=
 { d with files:=crashFiles (iI d p) d.files p.tail,now:=iI d p,sure:=iI d p,ch:=[],fail:=0 }
structure lH (N:gI) (k:Nat):Prop where
 row:N.Pairwise (fun x y=>Qr x.1 y.1=true)
 ids:(N.map (·.2)).Nodup
 lt:∀ x∈N,x.2 < k
 named:∀ x∈N,gU x.1=true
 few:N.length≤200
def zn:gI→List ky→gI→Nat→Prop
 | N,[],M,k=>N=M∧lH N k
 | N,c::r,M,k=>lH N k∧(∀ a b,c=.ren a b→a≠b∧∃ f,bP N a=some f)∧zn (nmDo N c) r M k
structure aO (d:ae):Prop where
 dZ:d.dZ≤67108864
 file:∀ f∈d.files,f.b.length≤1048576∧f.sure≤f.b.length
 wD:zn d.sure d.ch d.now d.files.length
 uG:d.ch.length≤d.ops
 Cm:d.files.length≤d.ops
 fail:d.fail≤4611686018427387904
 JQ:∀ n,ky.rem n∈d.ch→n.size≤16
theorem AA (a:ByteArray):Qr a a=false:=Cy _
theorem jT {N:gI} {n:ByteArray}:bP N n=none↔∀ x∈N,x.1≠n:=by
 simp [bP,List.find?_eq_none]
theorem gD {N:gI} {n:ByteArray} {f:Nat} (h:bP N n=some f):(n,f)∈N:=by
 unfold bP at h
 cases e:N.find? (fun x=>decide (x.1=n)) with
 | none=>rw [e] at h;cases h
 | some x=>
  rw [e] at h
  have h1:=List.mem_of_find?_eq_some e
  have h2:=List.find?_some e
  simp at h h2
  subst h;subst h2;exact h1
def jB (N:gI):Prop:=N.Pairwise (fun x y=>Qr x.1 y.1=true)
theorem jB.keys {N:gI} (h:jB N):(N.map (·.1)).Nodup:=by
 refine List.pairwise_map.2 (h.imp fun {a b} hl e=>?_)
 rw [e,AA] at hl;cases hl
theorem Qs {N:gI} (h:(N.map (·.1)).Nodup) {n:ByteArray} {f g:Nat} (h1:(n,f)∈N) (h2:(n,g)∈N):f=g:=by
 induction N with
 | nil=>simp at h1
 | cons x r ih=>
  obtain⟨n1,n2⟩:=List.nodup_cons.1 h
  rcases List.mem_cons.1 h1 with e1 | h1
  ·rcases List.mem_cons.1 h2 with e2 | h2
   ·rw [← e1] at e2;cases e2;rfl
   ·exact absurd (List.mem_map_of_mem (f:=(·.1)) h2) (by rw [← e1] at n1;exact n1)
  ·rcases List.mem_cons.1 h2 with e2 | h2
   ·exact absurd (List.mem_map_of_mem (f:=(·.1)) h1) (by rw [← e2] at n1;exact n1)
   ·exact ih n2 h1 h2
theorem qc {N:gI} (h:(N.map (·.1)).Nodup) {n:ByteArray} {f:Nat}:bP N n=some f↔(n,f)∈N:=by
 refine⟨gD,fun hm=>?_⟩
 cases e:bP N n with
 | none=>exact absurd rfl (jT.1 e _ hm)
 | some g=>rw [Qs h (gD e) hm]
theorem fV {N:gI} {n:ByteArray} {x:ByteArray×Nat}:x∈ed N n↔x∈N∧x.1≠n:=by simp [ed]
theorem ui {N:gI} (h:jB N) (n:ByteArray):jB (ed N n):=h.sublist List.filter_sublist
theorem xG {n:ByteArray} {f:Nat} {x:ByteArray×Nat}:∀ {N:gI},x∈nmIns n f N↔x=(n,f)∨x∈N
 | []=>by simp [nmIns]
 | y::r=>by
  unfold nmIns
  split
  ·simp
  ·rw [List.mem_cons,xG,List.mem_cons]
   constructor
   ·rintro (h | h | h) <;> simp [h]
   ·rintro (h | h | h) <;> simp [h]
theorem AJ (n:ByteArray) (f:Nat):∀ (N:gI),(nmIns n f N).Perm ((n,f)::N)
 | []=>List.Perm.refl _
 | y::r=>by
  unfold nmIns
  split
  ·exact List.Perm.refl _
  ·exact ((AJ n f r).cons y).trans (List.Perm.swap _ _ _)
theorem ND {a b c:ByteArray} (h1:Qr a b=true) (h2:Qr b c=true):Qr a c=true:=Gy _ _ _ h1 h2
theorem NF {a b:ByteArray} (h1:Qr a b=false) (h2:Qr b a=false):a=b:=PH (Gz _ _ h1 h2)
theorem Da {n:ByteArray} {f:Nat}:∀ {N:gI},jB N→(∀ x∈N,x.1≠n)→jB (nmIns n f N)
 | [],_,_=>List.pairwise_singleton _ _
 | y::r,h,hn=>by
  obtain⟨h1,h2⟩:=List.pairwise_cons.1 h
  unfold nmIns
  split
  ·rename_i hl
   refine List.pairwise_cons.2 ⟨fun z hz=>?_,h⟩
   rcases List.mem_cons.1 hz with rfl | hz
   ·exact hl
   ·exact ND hl (h1 z hz)
  ·rename_i hl
   refine List.pairwise_cons.2 ⟨fun z hz=>?_,Da h2 (fun x hx=>hn x (List.mem_cons_of_mem _ hx))⟩
   rcases xG.1 hz with rfl | hz
   ·show Qr y.1 n=true
    cases e:Qr y.1 n with
    | true=>rfl
    | false=>exact absurd (NF e (by simpa using hl)) (hn y (by simp))
   ·exact h1 z hz
theorem mq {N:gI} (h:jB N) (n:ByteArray) (f:Nat):jB (iN N n f):=
 Da (ui h n) (fun x hx=>(fV.1 hx).2)
theorem jv {N:gI} {n:ByteArray} {f:Nat} {x:ByteArray×Nat}:x∈iN N n f↔x=(n,f)∨(x∈N∧x.1≠n):=by
 unfold iN;rw [xG,fV]
theorem nW (N:gI) (n:ByteArray) (f:Nat):(iN N n f).Perm ((n,f)::ed N n):=AJ n f _
theorem qd {N:gI} (h:jB N) (n m:ByteArray) (f:Nat):bP (iN N n f) m=if m=n then some f else bP N m:=by
 have hk:=(mq h n f).keys
 split
 ·rename_i e;subst e
  exact (qc hk).2 (jv.2 (Or.inl rfl))
 ·rename_i e
  cases e2:bP N m with
  | none=>exact jT.2 (fun x hx=>by
    rcases jv.1 hx with rfl | ⟨hx,_⟩
    ·exact fun h=>e h.symm
    ·exact jT.1 e2 x hx)
  | some g=>exact (qc hk).2 (jv.2 (Or.inr ⟨gD e2,e⟩))
theorem nX {N:gI} (h:jB N) (n m:ByteArray):bP (ed N n) m=if m=n then none else bP N m:=by
 split
 ·rename_i e;subst e
  exact jT.2 (fun x hx=>(fV.1 hx).2)
 ·rename_i e
  cases e2:bP N m with
  | none=>exact jT.2 (fun x hx=>jT.1 e2 x (fV.1 hx).1)
  | some g=>exact (qc (ui h n).keys).2 (fV.2 ⟨gD e2,e⟩)
theorem uj {N:gI} (h:(N.map (·.2)).Nodup) (n:ByteArray):((ed N n).map (·.2)).Nodup:=h.sublist (List.filter_sublist.map _)
theorem xH (N:gI) (n:ByteArray):(ed N n).length≤N.length:=List.length_filter_le _ _
theorem NG {N M:gI} {l:List ky} {c:ky} {k k':Nat} (h:zn N l M k) (hkk:k≤k') (hc:∀ a b,c=.ren a b→a≠b∧∃ f,bP M a=some f) (hok:lH (nmDo M c) k'):zn N (l++[c]) (nmDo M c) k':=by
 induction l generalizing N with
 | nil=>obtain⟨rfl,h0⟩:=h;exact⟨⟨h0.row,h0.ids,fun x hx=>by have:=h0.lt x hx;omega,h0.named,h0.few⟩,hc,rfl,hok⟩
 | cons c' r ih=>obtain⟨h0,h1,h2⟩:=h;exact⟨⟨h0.row,h0.ids,fun x hx=>by have:=h0.lt x hx;omega,h0.named,h0.few⟩,h1,ih h2⟩
theorem uk {N M:gI} {l:List ky} {k:Nat} (h:zn N l M k):lH M k∧l.foldl nmDo N=M:=by
 induction l generalizing N with
 | nil=>obtain⟨rfl,h0⟩:=h;exact⟨h0,rfl⟩
 | cons c r ih=>exact ih h.2.2
theorem NH {N M:gI} {l:List ky} {k:Nat} (h:zn N l M k) (j:Nat):zn N (l.take j) ((l.take j).foldl nmDo N) k:=by
 induction l generalizing N j with
 | nil=>obtain⟨rfl,h0⟩:=h;simp;exact⟨rfl,h0⟩
 | cons c r ih=>
  obtain⟨h0,h1,h2⟩:=h
  cases j with
  | zero=>exact⟨rfl,h0⟩
  | succ j=>exact⟨h0,h1,ih h2 j⟩
theorem Db {N M:gI} {l:List ky} {k k':Nat} (h:zn N l M k) (hk:k≤k'):zn N l M k':=by
 induction l generalizing N with
 | nil=>obtain⟨rfl,h0⟩:=h;exact⟨rfl,h0.row,h0.ids,fun x hx=>by have:=h0.lt x hx;omega,h0.named,h0.few⟩
 | cons c r ih=>obtain⟨h0,h1,h2⟩:=h;exact⟨⟨h0.row,h0.ids,fun x hx=>by have:=h0.lt x hx;omega,h0.named,h0.few⟩,h1,ih h2⟩
theorem lH.del {N:gI} {k:Nat} (h:lH N k) (n:ByteArray):lH (ed N n) k:=
 ⟨ui h.row n,uj h.ids n,fun x hx=>h.lt x (fV.1 hx).1,fun x hx=>h.named x (fV.1 hx).1,Nat.le_trans (xH _ _) h.few⟩
theorem lH.put {N:gI} {k:Nat} (h:lH N k) {n:ByteArray} {f:Nat} (hf:f < k) (hn:gU n=true) (hno:∀ x∈ed N n,x.2≠f) (hl:(ed N n).length < 200):lH (iN N n f) k:=by
 have hp:=nW N n f
 refine⟨mq h.row n f,?_,fun x hx=>?_,fun x hx=>?_,?_⟩
 ·refine (hp.map (·.2)).nodup_iff.2 (List.nodup_cons.2 ⟨fun hm=>?_,uj h.ids n⟩)
  obtain⟨x,hx,e⟩:=List.mem_map.1 hm
  exact hno x hx e
 ·rcases jv.1 hx with rfl | ⟨hx,_⟩
  ·exact hf
  ·exact h.lt x hx
 ·rcases jv.1 hx with rfl | ⟨hx,_⟩
  ·exact hn
  ·exact h.named x hx
 ·rw [hp.length_eq,List.length_cons];omega
theorem Qt {N:gI} (h:(N.map (·.2)).Nodup) {a b:ByteArray} {f:Nat} (h1:(a,f)∈N) (h2:(b,f)∈N):a=b:=by
 induction N with
 | nil=>simp at h1
 | cons x r ih=>
  obtain⟨n1,n2⟩:=List.nodup_cons.1 h
  rcases List.mem_cons.1 h1 with e1 | h1
  ·rcases List.mem_cons.1 h2 with e2 | h2
   ·rw [← e1] at e2;cases e2;rfl
   ·exact absurd (List.mem_map_of_mem (f:=(·.2)) h2) (by rw [← e1] at n1;exact n1)
  ·rcases List.mem_cons.1 h2 with e2 | h2
   ·exact absurd (List.mem_map_of_mem (f:=(·.2)) h1) (by rw [← e2] at n1;exact n1)
   ·exact ih n2 h1 h2
theorem Qu {N:gI} {n:ByteArray} {f:Nat} (h:bP N n=some f):(ed N n).length < N.length:=by
 have hm:=gD h
 unfold ed
 refine Nat.lt_of_le_of_ne (List.length_filter_le _ _) (fun e=>?_)
 have:=List.length_filter_eq_length_iff.1 e (n,f) hm
 simp at this
theorem lH.ren {N:gI} {k:Nat} (h:lH N k) {a b:ByteArray} {f:Nat} (ha:bP N a=some f) (hab:a≠b) (hb:gU b=true):lH (nmDo N (.ren a b)) k:=by
 have hm:=gD ha
 have e:nmDo N (.ren a b)=ed (iN N b f) a:=by simp [nmDo,ha]
 rw [e]
 have hdp:(ed (iN N b f) a).Perm ((b,f)::ed (ed N b) a):=by
  have:=(nW N b f).filter (fun x=>decide (x.1≠a))
  unfold ed at this ⊢
  rwa [List.filter_cons,if_pos (by simpa using fun h=>hab h.symm)] at this
 have hl:(ed (ed N b) a).length < N.length:=by
  have h1:bP (ed N b) a=some f:=by rw [nX h.row,if_neg hab];exact ha
  have:=Qu h1
  have:=xH N b
  omega
 refine⟨ui (mq h.row b f) a,?_,fun x hx=>?_,fun x hx=>?_,?_⟩
 ·refine (hdp.map (·.2)).nodup_iff.2 (List.nodup_cons.2 ⟨fun hm2=>?_,uj (uj h.ids b) a⟩)
  obtain⟨x,hx,e2⟩:=List.mem_map.1 hm2
  obtain⟨hx,hxa⟩:=fV.1 hx
  obtain⟨hx,_⟩:=fV.1 hx
  simp only at e2
  exact hxa (Qt h.ids (by rw [← e2];exact hx) hm)
 ·rcases jv.1 (fV.1 hx).1 with rfl | ⟨hx,_⟩
  ·exact h.lt (a,f) hm
  ·exact h.lt x hx
 ·rcases jv.1 (fV.1 hx).1 with rfl | ⟨hx,_⟩
  ·exact hb
  ·exact h.named x hx
 ·rw [hdp.length_eq,List.length_cons];have:=h.few;omega
theorem bV {d:ae} (h:aO d):aO (aD d):=
 ⟨h.dZ,h.file,h.wD,Nat.le_succ_of_le h.uG,Nat.le_succ_of_le h.Cm,by have:=h.fail;show d.fail - 1≤_;omega,h.JQ⟩
theorem ve {N M:gI} {l:List ky} {k:Nat} (h:zn N l M k):lH N k:=by
 cases l with
 | nil=>exact h.2
 | cons c r=>exact h.1
theorem aO.now {d:ae} (h:aO d):lH d.now d.files.length:=(uk h.wD).1
theorem aO.ZJ {d:ae} (h:aO d):lH d.sure d.files.length:=ve h.wD
theorem aO.at {d:ae} (h:aO d) {n:ByteArray} {i:Nat} (e:bP d.now n=some i):i < d.files.length:=h.now.lt _ (gD e)
theorem eu {l:List FileD} {i:Nat} (hi:i < l.length) (x:FileD) (j:Nat):(l.set i x).getD j default=if j=i then x else l.getD j default:=by
 simp only [List.getD_eq_getElem?_getD]
 rw [List.getElem?_set]
 by_cases e:i=j
 ·subst e;simp [hi]
 ·rw [if_neg e,if_neg (fun e2=>e e2.symm)]
theorem jI {l:List FileD} {i:Nat} (hi:i < l.length):l.getD i default∈l:=by
 rw [List.getD_eq_getElem?_getD,List.getElem?_eq_getElem hi];simp
theorem sJ {d:ae} (h:aO d) {i:Nat} {x:FileD} (hx:x.b.length≤1048576∧x.sure≤x.b.length):aO (iE d i x):=by
 refine⟨h.dZ,fun f hf=>?_,by simpa [iE] using h.wD,h.uG,by simpa [iE] using h.Cm,h.fail,h.JQ⟩
 rcases List.mem_or_eq_of_mem_set hf with hf | rfl
 ·exact h.file f hf
 ·exact hx
theorem vg {d:ae} (h:aO d) {c:ky} (hc:∀ a b,c=.ren a b→a≠b∧∃ f,bP d.now a=some f) (hok:lH (nmDo d.now c) d.files.length) (ho:d.ch.length+1≤d.ops) (hr:∀ n,c=.rem n→n.size≤16):aO (bu d c):=
 ⟨h.dZ,h.file,NG h.wD (Nat.le_refl _) hc hok,by simpa [bu] using ho,h.Cm,h.fail,fun n hn=>by
  rcases List.mem_append.1 hn with hn | hn
  ·exact h.JQ n hn
  ·simp at hn;exact hr n hn.symm⟩
theorem gp (d:ae) (n:ByteArray) (b:List UInt8) :
  (∃ e,aI d n b=(aD d,e)∧(e=8∨e=1∨e=7)) ∨
  (¬ dC d∧gU n=true∧jW d (bP d.now n) b.length=true ∧
   ((∃ i,bP d.now n=some i∧aI d n b=(jd (aD d) i b,0)) ∨
     (bP d.now n=none∧aI d n b=(jd (bu (dU (aD d)) (.made n d.files.length)) d.files.length b,0)))):=by
 unfold aI
 by_cases h1:dC d
 ·rw [if_pos h1];exact Or.inl ⟨8,rfl,by simp⟩
 ·rw [if_neg h1]
  by_cases h2:gU n=false
  ·rw [if_pos h2];exact Or.inl ⟨1,rfl,by simp⟩
  ·rw [if_neg h2]
   by_cases h3:jW d (bP d.now n) b.length=false
   ·rw [if_pos h3];exact Or.inl ⟨7,rfl,by simp⟩
   ·rw [if_neg h3]
    refine Or.inr ⟨h1,by simpa using h2,by simpa using h3,?_⟩
    cases e:bP d.now n with
    | some i=>exact Or.inl ⟨i,rfl,rfl⟩
    | none=>exact Or.inr ⟨rfl,rfl⟩
theorem iX (d:ae) (n:ByteArray):(∃ e,aW d n=(aD d,e)∧(e=8∨e=6)) ∨
  (¬ dC d∧∃ i,bP d.now n=some i∧aW d n=(iE (aD d) i ⟨(d.files.getD i default).b,(d.files.getD i default).b.length⟩,0)):=by
 unfold aW
 by_cases h1:dC d
 ·rw [if_pos h1];exact Or.inl ⟨8,rfl,by simp⟩
 ·rw [if_neg h1]
  cases e:bP d.now n with
  | some i=>exact Or.inr ⟨h1,i,rfl,rfl⟩
  | none=>exact Or.inl ⟨6,rfl,by simp⟩
theorem AL (d:ae) (n:ByteArray) (k:Int):(∃ e,kJ d n k=(aD d,e)∧(e=8∨e=6∨e=1)) ∨
  (¬ dC d∧∃ i,bP d.now n=some i∧0≤k∧k≤fw d i∧kJ d n k=(iE (aD d) i ⟨(d.files.getD i default).b.take k.toNat,k.toNat⟩,0)):=by
 unfold kJ
 by_cases h1:dC d
 ·rw [if_pos h1];exact Or.inl ⟨8,rfl,by simp⟩
 ·rw [if_neg h1]
  cases e:bP d.now n with
  | some i=>
   by_cases h2:k < 0∨(fw d i:Int) < k
   ·simp only;rw [if_pos h2];exact Or.inl ⟨1,rfl,by simp⟩
   ·simp only;rw [if_neg h2];exact Or.inr ⟨h1,i,rfl,by omega,by omega,rfl⟩
  | none=>exact Or.inl ⟨6,rfl,by simp⟩
theorem jw (d:ae) (a b:ByteArray):(∃ e,bZ d a b=(aD d,e)∧(e=8∨e=6∨e=1)) ∨
  (¬ dC d∧(∃ i,bP d.now a=some i)∧gU b=true∧((a=b∧bZ d a b=(aD d,0))∨(a≠b∧bZ d a b=(bu (aD d) (.ren a b),0)))):=by
 unfold bZ
 by_cases h1:dC d
 ·rw [if_pos h1];exact Or.inl ⟨8,rfl,by simp⟩
 ·rw [if_neg h1]
  cases e:bP d.now a with
  | some i=>
   simp only
   by_cases h2:gU b=false
   ·rw [if_pos h2];exact Or.inl ⟨1,rfl,by simp⟩
   ·rw [if_neg h2]
    refine Or.inr ⟨h1,⟨i,rfl⟩,by simpa using h2,?_⟩
    by_cases h3:a=b
    ·rw [if_pos h3];exact Or.inl ⟨h3,rfl⟩
    ·rw [if_neg h3];exact Or.inr ⟨h3,rfl⟩
  | none=>exact Or.inl ⟨6,rfl,by simp⟩
theorem mM (d:ae) (n:ByteArray):(∃ e,cO d n=(aD d,e)∧(e=8∨e=6)) ∨
  (¬ dC d∧(∃ i,bP d.now n=some i)∧cO d n=(bu (aD d) (.rem n),0)):=by
 unfold cO
 by_cases h1:dC d
 ·rw [if_pos h1];exact Or.inl ⟨8,rfl,by simp⟩
 ·rw [if_neg h1]
  cases e:bP d.now n with
  | some i=>exact Or.inr ⟨h1,⟨i,rfl⟩,rfl⟩
  | none=>exact Or.inl ⟨6,rfl,by simp⟩
theorem gF (d:ae):bF d=(aD d,8)∨(¬ dC d∧bF d=(nC (aD d),0)):=by
 unfold bF
 by_cases h1:dC d
 ·rw [if_pos h1];exact Or.inl rfl
 ·rw [if_neg h1];exact Or.inr ⟨h1,rfl⟩
/-! A disk that may be stays one. -/
theorem Dc {d:ae} (h:aO d) {i:Nat} (hi:i < d.files.length) {b:List UInt8} (hb:b.length+fw d i≤1048576):aO (jd d i b):=by
 refine sJ h ⟨?_,?_⟩
 ·simp only [List.length_append];unfold fw at hb;omega
 ·have:=(h.file _ (jI hi)).2
  simp only [List.length_append];omega
theorem xI {d:ae} {f:Option Nat} {n:Nat}:jW d f n=true↔(fU d≤d.dZ∧n+fU d≤d.dZ∧n+(match f with | some i=>fw d i | none=>0)≤1048576∧(f=none→d.now.length < 200)):=by
 unfold jW;exact decide_eq_true_iff
theorem AO {N:gI} {n:ByteArray} (h:bP N n=none):ed N n=N:=
 List.filter_eq_self.2 (fun x hx=>by simpa using jT.1 h x hx)
theorem gV {d:ae} (h:aO d) (n:ByteArray) (b:List UInt8):aO (aI d n b).1:=by
 rcases gp d n b with ⟨e,h1,_⟩|⟨_,hn,hr,⟨i,h1,h2⟩|⟨h1,h2⟩⟩
 ·rw [h1];exact bV h
 ·rw [h2]
  rw [h1] at hr
  exact Dc (bV h) (h.at h1) (xI.1 hr).2.2.1
 ·rw [h2]
  rw [h1] at hr
  have hr':=xI.1 hr
  have hk:aO (dU (aD d)):=by
   refine⟨h.dZ,fun f hf=>?_,Db h.wD (by simp [dU,aD]),Nat.le_succ_of_le h.uG,by have:=h.Cm;simp [dU,aD];omega,(bV h).fail,h.JQ⟩
   rcases List.mem_append.1 hf with hf | hf
   ·exact h.file f hf
   ·simp at hf;subst hf;simp
  have hkn:=hk.now
  refine Dc (vg hk (fun a b e=>by cases e) ?_ ?_ (fun n e=>by cases e)) (by simp [bu,dU,aD]) ?_
  ·show lH (iN d.now n d.files.length) _
   refine lH.put hkn (by simp [dU,aD]) hn (fun x hx e=>?_) (by rw [show (dU (aD d)).now=d.now from rfl,AO h1];exact hr'.2.2.2 rfl)
   have:=h.now.lt x (fV.1 hx).1
   omega
  ·have:=h.uG;simp [dU,aD];omega
  ·have:=hr'.2.2.1
   simp only [fw,bu,dU,aD,List.getD_eq_getElem?_getD]
   simpa using this
theorem gG {d:ae} (h:aO d) (n:ByteArray):aO (aW d n).1:=by
 rcases iX d n with ⟨e,h1,_⟩|⟨_,i,h1,h2⟩
 ·rw [h1];exact bV h
 ·rw [h2];exact sJ (bV h) ⟨(h.file _ (jI (h.at h1))).1,Nat.le_refl _⟩
theorem Mq {d:ae} (h:aO d) (n:ByteArray) (k:Int):aO (kJ d n k).1:=by
 rcases AL d n k with ⟨e,h1,_⟩|⟨_,i,h1,h0,hk,h2⟩
 ·rw [h1];exact bV h
 ·rw [h2]
  have:=(h.file _ (jI (h.at h1))).1
  refine sJ (bV h) ⟨?_,?_⟩
  ·simp only [List.length_take];omega
  ·unfold fw at hk;simp only [List.length_take];omega
theorem nY {d:ae} (h:aO d) (a b:ByteArray):aO (bZ d a b).1:=by
 rcases jw d a b with ⟨e,h1,_⟩|⟨_,⟨i,h1⟩,hb,⟨h2,h3⟩|⟨h2,h3⟩⟩
 ·rw [h1];exact bV h
 ·rw [h3];exact bV h
 ·rw [h3]
  refine vg (bV h) (fun x y e=>by cases e;exact⟨h2,i,h1⟩) ?_ (Nat.succ_le_succ h.uG) (fun n e=>by cases e)
  exact h.now.ren h1 h2 hb
theorem nZ {d:ae} (h:aO d) (n:ByteArray):aO (cO d n).1:=by
 rcases mM d n with ⟨e,h1,_⟩|⟨_,⟨i,h1⟩,h2⟩
 ·rw [h1];exact bV h
 ·rw [h2];exact vg (bV h) (fun x y e=>by cases e) (h.now.del n) (Nat.succ_le_succ h.uG) (fun m e=>by
   cases e
   have:=h.now.named _ (gD h1)
   have h3:1≤n.size∧n.size≤16:=of_decide_eq_true this
   exact h3.2)
theorem yP {d:ae} (h:aO d):aO (bF d).1:=by
 rcases gF d with h1 | ⟨_,h2⟩
 ·rw [h1];exact bV h
 ·rw [h2];exact⟨h.dZ,h.file,⟨rfl,h.now⟩,Nat.zero_le _,Nat.le_succ_of_le h.Cm,(bV h).fail,fun n hn=>by simp [nC] at hn⟩
theorem Hq {d:ae} (h:aO d) (n:Int):aO (nA d n):=by
 refine⟨h.dZ,h.file,h.wD,h.uG,h.Cm,?_,h.JQ⟩
 unfold nA;simp only;split <;> omega
theorem wE (q:Int):aO (iU q):=by
 refine⟨by simp [iU];omega,fun f hf=>by simp [iU] at hf,⟨rfl,⟨List.Pairwise.nil,List.nodup_nil,by simp [iU],by simp [iU],by simp [iU]⟩⟩,Nat.le_refl _,Nat.le_refl _,by simp [iU],by simp [iU]⟩
theorem qf (p:List UInt8) (n:Nat):pickN p n≤n:=by
 unfold pickN;split
 ·omega
 ·have:=Nat.mod_lt (y:=n+1) (‹UInt8›.toNat) (by omega);omega
theorem jC:∀ (N:gI) (fs:List FileD) (p:List UInt8),(crashFiles N fs p).length=fs.length
 | [],_,_=>rfl
 | x::r,fs,p=>by unfold crashFiles;rw [jC r];simp
theorem sK:∀ (N:gI) (fs:List FileD) (p:List UInt8),(∀ x∈N,x.2 < fs.length)→(∀ f∈fs,f.b.length≤1048576∧f.sure≤f.b.length)→∀ f∈crashFiles N fs p,f.b.length≤1048576∧f.sure≤f.b.length
 | [],_,_,_,h=>h
 | x::r,fs,p,hl,h=>by
  unfold crashFiles
  refine sK r _ _ (fun y hy=>by rw [List.length_set];exact hl y (List.mem_cons_of_mem _ hy)) (fun f hf=>?_)
  rcases List.mem_or_eq_of_mem_set hf with hf | rfl
  ·exact h f hf
  ·obtain⟨h1,h2⟩:=h _ (jI (hl x (by simp)))
   have:=qf p ((fs.getD x.2 default).b.length - (fs.getD x.2 default).sure)
   simp only [Az,List.length_take];omega
theorem pz {d:ae} (h:aO d) (p:List UInt8):lH (iI d p) d.files.length:=(uk (NH h.wD _)).1
theorem De {d:ae} (h:aO d) (p:List UInt8):aO (gz d p):=by
 have hn:=pz h p
 refine⟨h.dZ,sK _ _ _ hn.lt h.file,⟨rfl,?_⟩,Nat.zero_le _,?_,by simp [gz],by simp [gz]⟩
 ·show lH (iI d p) (crashFiles _ _ _).length
  rw [jC];exact hn
 ·show (crashFiles _ _ _).length≤d.ops
  rw [jC];exact h.Cm
theorem Et (d:ae) (n m:ByteArray) (b:List UInt8) (k:Int):(aI d n b).1.ops=d.ops+1∧(aW d n).1.ops=d.ops+1∧(kJ d n k).1.ops=d.ops+1∧(bZ d n m).1.ops=d.ops+1∧(cO d n).1.ops=d.ops+1∧(bF d).1.ops=d.ops+1:=by
 refine⟨?_,?_,?_,?_,?_,?_⟩
 ·rcases gp d n b with ⟨e,h1,_⟩|⟨_,_,_,⟨i,_,h2⟩|⟨_,h2⟩⟩ <;> simp_all [aD,jd,bu,iE,dU]
 ·rcases iX d n with ⟨e,h1,_⟩|⟨_,i,h1,h2⟩ <;> simp_all [aD,iE]
 ·rcases AL d n k with ⟨e,h1,_⟩|⟨_,i,h1,_,_,h2⟩ <;> simp_all [aD,iE]
 ·rcases jw d n m with ⟨e,h1,_⟩|⟨_,_,_,⟨_,h2⟩|⟨_,h2⟩⟩ <;> simp_all [aD,bu]
 ·rcases mM d n with ⟨e,h1,_⟩|⟨_,_,h2⟩ <;> simp_all [aD,bu]
 ·rcases gF d with h1 | ⟨_,h2⟩ <;> simp_all [aD,nC]
/-! What an operation on other names leaves. -/
def agree (K:ByteArray→Prop) (N M:gI):Prop:=∀ n,K n→bP N n=bP M n
def nI (d:ae) (N:gI):Prop:=∃ j,j≤d.ch.length∧N=(d.ch.take j).foldl nmDo d.sure
structure dG (K:ByteArray→Prop) (d d':ae):Prop where
 names:agree K d'.now d.now
 files:∀ n i,K n→bP d.now n=some i→d'.files.getD i default=d.files.getD i default
 states:∀ N,nI d' N→nI d N∨agree K N d.now
theorem dG.refl (K:ByteArray→Prop) (d:ae):dG K d d:=⟨fun _ _=>rfl,fun _ _ _ _=>rfl,fun N h=>Or.inl h⟩
theorem dG.trans {K:ByteArray→Prop} {a b c:ae} (h1:dG K a b) (h2:dG K b c):dG K a c:=by
 refine⟨fun n hn=>(h2.names n hn).trans (h1.names n hn),fun n i hn hi=>?_,fun N hN=>?_⟩
 ·rw [h2.files n i hn (by rw [h1.names n hn];exact hi),h1.files n i hn hi]
 ·rcases h2.states N hN with h | h
  ·exact h1.states N h
  ·exact Or.inr (fun n hn=>(h n hn).trans (h1.names n hn))
theorem dG.same {K:ByteArray→Prop} {d d':ae} (h1:d'.now=d.now) (h2:d'.files=d.files) (h3:d'.ch=d.ch) (h4:d'.sure=d.sure):dG K d d':=
 ⟨fun _ _=>by rw [h1],fun _ _ _ _=>by rw [h2],fun N hN=>Or.inl (by unfold nI at *;rwa [h3,h4] at hN)⟩
theorem dG.tick (K:ByteArray→Prop) (d:ae):dG K d (aD d):=dG.same rfl rfl rfl rfl
theorem pE {d:ae} (h:aO d) {c:ky} {N:gI} (hN:nI (bu d c) N):nI d N∨N=nmDo d.now c:=by
 obtain⟨j,hj,rfl⟩:=hN
 simp only [bu,List.length_append,List.length_cons,List.length_nil] at hj
 by_cases e:j≤d.ch.length
 ·exact Or.inl ⟨j,e,by simp only [bu];rw [List.take_append_of_le_length e]⟩
 ·obtain rfl:j=d.ch.length+1:=by omega
  right
  simp only [bu]
  rw [List.take_of_length_le (by simp),List.foldl_append,(uk h.wD).2]
  rfl
theorem dG.file {K:ByteArray→Prop} {d:ae} (h:aO d) {n:ByteArray} (hn:¬ K n) {i:Nat} (hi:bP d.now n=some i) (x:FileD):dG K d (iE d i x):=by
 refine⟨fun _ _=>rfl,fun m j hm hj=>?_,fun N hN=>Or.inl hN⟩
 show (d.files.set i x).getD j default=_
 rw [eu (h.at hi)]
 split
 ·rename_i e;subst e
  have:=Qt h.now.ids (gD hi) (gD hj)
  subst this;exact absurd hm hn
 ·rfl
theorem dG.change {K:ByteArray→Prop} {d:ae} (h:aO d) {c:ky} (hc:agree K (nmDo d.now c) d.now):dG K d (bu d c):=
 ⟨hc,fun _ _ _ _=>rfl,fun N hN=>by
  rcases pE h hN with h1 | rfl
  ·exact Or.inl h1
  ·exact Or.inr hc⟩
theorem Df {K:ByteArray→Prop} {N:gI} (h:jB N) {n:ByteArray} (hn:¬ K n) (f:Nat):agree K (iN N n f) N:=fun m hm=>by
 rw [qd h,if_neg (fun e=>hn (by rw [← e];exact hm))]
theorem NI {K:ByteArray→Prop} {N:gI} (h:jB N) {n:ByteArray} (hn:¬ K n):agree K (ed N n) N:=fun m hm=>by
 rw [nX h,if_neg (fun e=>hn (by rw [← e];exact hm))]
theorem dG.append {K:ByteArray→Prop} {d:ae} (h:aO d) {n:ByteArray} (hn:¬ K n) (b:List UInt8):dG K d (aI d n b).1:=by
 rcases gp d n b with ⟨e,h1,_⟩|⟨_,hnm,hr,⟨i,h1,h2⟩|⟨h1,h2⟩⟩
 ·rw [h1];exact dG.tick K d
 ·rw [h2];exact (dG.tick K d).trans (dG.file (bV h) hn h1 _)
 ·rw [h2]
  have g:dG K d (bu (dU (aD d)) (.made n d.files.length)):=by
   refine⟨Df h.now.row hn _,fun m j hm hj=>?_,fun N hN=>?_⟩
   ·have:=h.at hj
    simp only [bu,dU,aD,List.getD_eq_getElem?_getD]
    rw [List.getElem?_append_left this]
   ·obtain⟨j,hj,rfl⟩:=hN
    simp only [bu,dU,aD,List.length_append,List.length_cons,List.length_nil] at hj
    by_cases e:j≤d.ch.length
    ·exact Or.inl ⟨j,e,by simp only [bu,dU,aD];rw [List.take_append_of_le_length e]⟩
    ·obtain rfl:j=d.ch.length+1:=by omega
     right
     simp only [bu,dU,aD]
     rw [List.take_of_length_le (by simp),List.foldl_append,(uk h.wD).2]
     exact Df h.now.row hn _
  refine g.trans ⟨fun _ _=>rfl,fun m j hm hj=>?_,fun N hN=>Or.inl hN⟩
  simp only [jd,iE]
  rw [eu (by simp [bu,dU,aD])]
  split
  ·rename_i e;subst e
   rw [g.names m hm] at hj
   have:=h.at hj;omega
  ·rfl
theorem dG.sync {K:ByteArray→Prop} {d:ae} (h:aO d) {n:ByteArray} (hn:¬ K n):dG K d (aW d n).1:=by
 rcases iX d n with ⟨e,h1,_⟩|⟨_,i,h1,h2⟩
 ·rw [h1];exact dG.tick K d
 ·rw [h2];exact (dG.tick K d).trans (dG.file (bV h) hn h1 _)
theorem dG.remove {K:ByteArray→Prop} {d:ae} (h:aO d) {n:ByteArray} (hn:¬ K n):dG K d (cO d n).1:=by
 rcases mM d n with ⟨e,h1,_⟩|⟨_,⟨i,h1⟩,h2⟩
 ·rw [h1];exact dG.tick K d
 ·rw [h2];exact (dG.tick K d).trans (dG.change (bV h) (NI h.now.row hn))
structure cZ where
 ak:Nat
 next:Nat
 aa:List Nat
deriving DecidableEq,Inhabited
structure bI where
 size:Nat
 m:cZ
 loose:Bool
deriving DecidableEq,Inhabited
def bG:ByteArray:=⟨#[109]⟩
def az:ByteArray:=⟨#[109,46,110,101,119]⟩
def zo (n k:Nat):UInt8:=UInt8.ofNat (48+n / 10 ^ k % 10)
def ai (s:Nat):ByteArray:=if s < 1∨1000000≤s then ByteArray.empty else ⟨#[115,zo s 5,zo s 4,zo s 3,zo s 2,zo s 1,zo s 0]⟩
def upB (b:Nat):Nat→List Nat→Bool
 | _,[]=>true
 | was,s::r=>decide (was < s∧s < b) && upB b s r
def fJ (m:cZ):Bool:=decide (1≤m.ak∧m.ak≤3∧1≤m.aa.length∧m.aa.length≤64∧1≤m.next∧m.next≤1000000) && upB m.next 0 m.aa
def jD (m:cZ):List UInt8:=be m.next 4++be m.aa.length 2++(m.aa.map (fun s=>be s 4)).flatten
def dP (m:cZ):cz:=⟨100,m.ak,jD m⟩
def og (m:cZ):List UInt8×Int:=if fJ m then (aj (dP m),0) else ([],1)
def bM {σ:Type} (r:σ×Int) (f:σ→σ×Int):σ×Int:=if r.2=0 then f r.1 else r
def bH (n:ByteArray) (d:ae):ae×Int:=if (bP d.now n).isSome then cO d n else (d,0)
def dM (s:Nat) (d:ae):ae×Int:=bM (bH (ai s) d) (fun d=>aI d (ai s) [])
def eY (m:cZ) (d:ae):ae×Int:=
 bM (bM (bM (bH az d) (fun d=>aI d az (aj (dP m)))) (fun d=>aW d az)) (fun d=>bZ d az bG)
def aG (m:cZ) (d:ae):ae×Bool×Int:=
 if fJ m=false then (d,false,1)
 else if (eY m d).2≠0 then ((eY m d).1,false,(eY m d).2)
 else ((bF (eY m d).1).1,true,(bF (eY m d).1).2)
def sized (n:Int):Nat:=(max 16 (min n 1048576)).toNat
def firstM (v:Nat):cZ:=⟨v,2,[1]⟩
def cu (v size:Int) (d:ae):ae×Option bI×Int:=
 if v < 1∨3 < v then (d,none,10)
 else if (bP d.now bG).isSome then (d,none,12)
 else
  let r:=bM (bM (dM 1 d) (fun d=>aW d (ai 1))) (fun d=>((aG (firstM v.toNat) d).1,(aG (firstM v.toNat) d).2.2))
  if r.2≠0 then (r.1,none,r.2) else (r.1,some ⟨sized size,firstM v.toNat,false⟩,0)
abbrev DL:=ae×bI
def bz (l:bI):ByteArray:=ai (l.m.aa.getLastD 0)
def bytesD (d:ae) (n:ByteArray):Nat:=((iy d n).getD []).length
def lI (l:bI) (have' more:Nat):Bool:=decide (have'=0∨have'+more≤l.size)
def gW (f:ae→ae×Int) (s:DL):DL×Int:=(((f s.1).1,s.2),(f s.1).2)
def aY (s:DL):DL×Int:=
 if s.2.loose then (((bF s.1).1,{ s.2 with loose:=decide ((bF s.1).2≠0) }),(bF s.1).2) else (s,0)
def dD (m:cZ) (s:DL):DL×Bool×Int:=
 (((aG m s.1).1,if (aG m s.1).2.1 then { s.2 with m:=m,loose:=decide ((aG m s.1).2.2≠0) } else s.2),(aG m s.1).2.1,(aG m s.1).2.2)
def gM (l:bI):cZ:=⟨l.m.ak,l.m.next+1,l.m.aa++[l.m.next]⟩
def gY (s:DL):DL×Int:=
 if 64≤s.2.m.aa.length then (s,4) else
 bM (bM (bM (gW (fun d=>aW d (bz s.2)) s) (gW (dM s.2.m.next))) (gW (fun d=>aW d (ai s.2.m.next)))) (fun t=>((dD (gM s.2) t).1,(dD (gM s.2) t).2.2))
def bY (kind:Int) (body:List UInt8) (s:DL):DL×Int:=
 if gu kind s.2.m.ak body.length≠0 then (s,gu kind s.2.m.ak body.length) else
 bM (bM (aY s) (fun t=>if lI t.2 (bytesD t.1 (bz t.2)) (aj ⟨kind.toNat,s.2.m.ak,body⟩).length then (t,0) else gY t))
  (fun t=>gW (fun d=>aI d (bz t.2) (aj ⟨kind.toNat,s.2.m.ak,body⟩)) t)
def fM (s:DL):DL×Int:=bM (aY s) (fun t=>gW (fun d=>aW d (bz t.2)) t)
def dL (nx:Nat) (b:List UInt8) (s:ae×List Nat×Nat):(ae×List Nat×Nat)×Int:=
 if 64≤s.2.1.length then (s,4)
 else if (bH (ai (nx+s.2.1.length)) s.1).2≠0 then (((bH (ai (nx+s.2.1.length)) s.1).1,s.2),(bH (ai (nx+s.2.1.length)) s.1).2)
 else (((aI (bH (ai (nx+s.2.1.length)) s.1).1 (ai (nx+s.2.1.length)) b).1,s.2.1++[nx+s.2.1.length],b.length),(aI (bH (ai (nx+s.2.1.length)) s.1).1 (ai (nx+s.2.1.length)) b).2)
def newest (aa:List Nat):ByteArray:=ai (aa.getLastD 0)
def jk (l:bI) (b:List UInt8) (s:ae×List Nat×Nat):(ae×List Nat×Nat)×Int:=
 if s.2.1=[] then dL l.m.next b s
 else if lI l s.2.2 b.length then (((aI s.1 (newest s.2.1) b).1,s.2.1,s.2.2+b.length),(aI s.1 (newest s.2.1) b).2)
 else bM (((aW s.1 (newest s.2.1)).1,s.2),(aW s.1 (newest s.2.1)).2) (dL l.m.next b)
def rowsD (l:bI):List (List UInt8)→(ae×List Nat×Nat)→(ae×List Nat×Nat)×Int
 | [],s=>(s,0)
 | b::r,s=>bM (jk l b s) (rowsD l r)
def fK (l:bI) (rows:List (List UInt8)) (d:ae):(ae×List Nat×Nat)×Int:=
 bM (bM (rowsD l rows (d,[],0)) (fun s=>if s.2.1=[] then dL l.m.next [] s else (s,0)))
  (fun s=>(((aW s.1 (newest s.2.1)).1,s.2),(aW s.1 (newest s.2.1)).2))
def dropD:List Nat→ae→ae
 | [],d=>d
 | s::r,d=>dropD r (bH (ai s) d).1
def iD:List Nat→ae→ae
 | [],d=>d
 | s::r,d=>iD r (cO d (ai s)).1
def gX (ak:Nat) (l:bI) (aa:List Nat):cZ:=⟨ak,l.m.next+aa.length,aa⟩
def fD (ak:Nat) (rows:List (List UInt8)) (s:DL):DL×Int:=
 if (aY s).2≠0 then aY s else
 let t:=(aY s).1
 let r:=fK t.2 rows t.1
 if r.2≠0 then ((dropD r.1.2.1 r.1.1,t.2),r.2) else
 let a:=dD (gX ak t.2 r.1.2.1) (r.1.1,t.2)
 if a.2.2=0 then ((iD t.2.m.aa a.1.1,a.1.2),0)
 else if a.2.1 then (a.1,a.2.2) else ((dropD r.1.2.1 a.1.1,a.1.2),a.2.2)
def tellAll {σ:Type} (each:σ→cz→σ×Int) (ak:Nat):List cz→σ→σ×Int
 | [],s=>(s,0)
 | f::r,s=>if f.ak≠ak then (s,3) else if (each s f).2≠0 then each s f else tellAll each ak r (each s f).1
def scanSeg {σ:Type} (each:σ→cz→σ×Int) (d:ae) (m:cZ) (i:Nat) (s:σ):σ×Nat×Int:=
 match iy d (ai (m.aa.getD i 0)) with
 | none=>(s,0,6)
 | some b=>
  if (bO b).2.2≠0∧i+1 < m.aa.length then (s,0,3)
  else if (tellAll each m.ak (bO b).1 s).2≠0 then ((tellAll each m.ak (bO b).1 s).1,0,(tellAll each m.ak (bO b).1 s).2)
  else ((tellAll each m.ak (bO b).1 s).1,(bO b).2.1,0)
def scanAll {σ:Type} (each:σ→cz→σ×Int) (d:ae) (m:cZ):Nat→Nat→Nat→σ→σ×Nat×Int
 | 0,_,n,s=>(s,n,0)
 | k+1,i,_,s=>if (scanSeg each d m i s).2.2≠0 then scanSeg each d m i s else scanAll each d m k (i+1) (scanSeg each d m i s).2.1 (scanSeg each d m i s).1
def bE (b:List UInt8):cZ×Int:=
 if (bq b).2.2≠0 then (default,(bq b).2.2)
 else if (bq b).2.1 < b.length∨(bq b).1.kind≠100 then (default,3)
 else if (bq b).1.ak < 1∨3 < (bq b).1.ak then (default,10)
 else
  let x:=(bq b).1.body
  let k:=num ((x.drop 4).take 2)
  let m:cZ:=⟨(bq b).1.ak,num (x.take 4),(List.range k).map (fun j=>num ((x.drop (6+4 * j)).take 4))⟩
  if x.length=6+4 * k∧fJ m then (m,0) else (default,3)
def df {σ:Type} (each:σ→cz→σ×Int) (size:Int) (d:ae) (s:σ):σ×ae×Option bI×Int:=
 match iy d bG with
 | none=>(s,d,none,6)
 | some b=>
  if (bE b).2≠0 then (s,d,none,(bE b).2) else
  let m:=(bE b).1
  let l:bI:=⟨sized size,m,false⟩
  let r:=scanAll each d m m.aa.length 0 0 s
  if r.2.2≠0 then (r.1,d,none,r.2.2) else
  let e:=bM (bM (if r.2.1=bytesD d (bz l) then (d,0) else kJ d (bz l) r.2.1) (fun d=>aW d (bz l))) bF
  if e.2≠0 then (r.1,e.1,none,e.2) else (r.1,e.1,some l,0)
def Ws (s:DL):Nat:=(s.2.m.aa.map (fun x=>bytesD s.1 (ai x))).sum
end Go.Proofs.YtanhdliaaccacaaGreat
