/- .. -/
import Derived.Test.YtanhdliaaccacaaGreatUB2
import Derived.Test.YtanhdliaaccacaaGreatUB8
namespace Go.Proofs.YtanhdliaaccacaaGreat
open Go.RowKit
set_option linter.unusedVariables false
set_option maxHeartbeats 64000000
set_option maxRecDepth 100000
def bK {σ:Type} (g:List (σ→σ×Int)) (s:σ):σ×Int:=g.foldl bM (s,0)
theorem Dh {σ:Type} (g:List (σ→σ×Int)) {r:σ×Int} (h:r.2≠0):g.foldl bM r=r:=by
 induction g with
 | nil=>rfl
 | cons f g ih=>
  rw [List.foldl_cons,show bM r f=r from by unfold bM;rw [if_neg h]]
  exact ih
theorem aT {σ:Type} {r:σ×Int} {f:σ→σ×Int} (h:r.2=0):bM r f=f r.1:=if_pos h
theorem aZ {σ:Type} {r:σ×Int} {f:σ→σ×Int} (h:r.2≠0):bM r f=r:=if_neg h
def Ez (f:FuncId×Array Value):Value:=.func (.func f.1) #[] f.2
section
variable {F0:List Nat} {w0 w:World}
def xK {σ:Type} (R:σ→List ax) (g:List (σ→σ×Int)) (s0:σ) (n:Nat) (F0:List Nat) (w0:World) (k:Value) (wr:World):Prop:=
 ∃ i:Nat,k=.int .i64 i∧i≤n∧(bK (g.take i) s0).2=0∧In F0 w0 wr (R (bK (g.take i) s0).1)
theorem Hw {σ:Type} (R:σ→List ax) (g:List (σ→σ×Int)) (fs:List (FuncId×Array Value)) (hlen:g.length=fs.length) (hsm:fs.length≤1000) (s0:σ) (b c:Nat)
  (hsrc:∀ s w',In F0 w0 w' (R s)→∀ (j:Nat) v,(fs.map Ez)[j]?=some v→w'.cell? ⟨b,j,none⟩=some v)
  (hent:∀ f∈fs,∀ args w',(callFunc f.1 args).run Tryz.prog w'=.ok (.enter f.1 args) w')
  (hstep:∀ (i:Nat) f gi,fs[i]?=some f→g[i]?=some gi→∀ w',(bK (g.take i) s0).2=0→In F0 w0 w' (R (bK (g.take i) s0).1) →
   Calls Tryz.prog f.1 f.2 w' fun e w''=>e=.returned (.int .i64 (gi (bK (g.take i) s0).1).2)∧In F0 w0 w'' (R (gi (bK (g.take i) s0).1).1))
  (h:In F0 w0 w (R s0)) :
  Calls Tryz.prog 118 #[.slice (some ⟨b,0,none⟩) fs.length c] w fun e w'=>e=.returned (.int .i64 (bK g s0).2)∧In F0 w0 w' (R (bK g s0).1):=by
 have HS:Hid (xK R g s0 fs.length F0 w0 (.int .i64 0) w):=Lib.hid ⟨0,rfl,Nat.zero_le _,rfl,h⟩
 have JZ:=Lib.hid hsrc
 have xL:=Lib.hid hent
 have QC:=Lib.hid hstep
 have HLEN:=Lib.hid hlen
 clear h hsrc hent hstep hlen
 go_enter Tryz.func118,Tryz.ntmps118
 go_wp2_with fail
 go_loopw [8] (xK R g s0 fs.length F0 w0) (fun k _=>fs.length - (intOf k).toNat)
 case atStart=>exact HS.out
 case round=>
  obtain⟨i,rfl,hi,h0,ho⟩:=hrel
  clear HS
  by_cases hlt:i < fs.length
  ·obtain⟨f,hf⟩:∃ f,fs[i]?=some f:=⟨fs[i],List.getElem?_eq_getElem hlt⟩
   obtain⟨gi,hg⟩:∃ gi,g[i]?=some gi:=⟨g[i]'(by rw [HLEN.out];exact hlt),List.getElem?_eq_getElem _⟩
   have c0:=JZ.out _ wr ho i (Ez f) (by simp [hf])
   have eg:=xL.out f (List.mem_of_getElem? hf)
   have K:=Lib.hid (QC.out i f gi hf hg wr h0 ho)
   have hst:bK (g.take (i+1)) s0=gi (bK (g.take i) s0).1:=by
    unfold bK at h0 ⊢
    rw [List.take_add_one,hg]
    simp only [Option.toList_some,List.foldl_append,List.foldl_cons,List.foldl_nil]
    exact aT h0
   have hend:(gi (bK (g.take i) s0).1).2≠0→bK g s0=gi (bK (g.take i) s0).1:=fun hne=>by
    have e:g=g.take (i+1)++g.drop (i+1):=(List.take_append_drop _ _).symm
    have e2:bK g s0=(g.drop (i+1)).foldl bM (bK (g.take (i+1)) s0):=by
     unfold bK
     conv=>lhs;rw [e]
     rw [List.foldl_append]
    rw [e2,hst]
    exact Dh _ hne
   have HST:=Lib.hid hst
   have xM:=Lib.hid hend
   have hlt':(i:Int) < (fs.length:Int):=by omega
   clear ho hf hg hst hend h0 hlt
   unfold Ez at c0
   obtain⟨QD,EA⟩:=f
   simp only at c0 eg K
   generalize gi (bK (g.take i) s0).1=r at *
   by_cases hr:r.2=0
   ·have Xy:=Lib.hid hr
    clear hr
    go_wp2_with fail
    refine K.out.mono ?_
    rintro e w1 ⟨rfl,g1⟩
    rw [Xy.out]
    have HR:Hid (xK R g s0 fs.length F0 w0 (.int .i64 (i+1)) w1):=Lib.hid ⟨i+1,by go_num,by omega,by rw [HST.out];exact Xy.out,by rw [HST.out];exact g1⟩
    clear g1 K HST xM Xy
    go_wp2_with fail
    go_roundw
    case rel=>exact HR.out
    case measure=>simp [intOf];omega
   ·have q:(r.2 != 0)=true:=by rw [bne_iff_ne];exact hr
    have HE:=Lib.hid (xM.out hr)
    clear hr HST xM
    go_wp2_with fail
    refine K.out.mono ?_
    rintro e w1 ⟨rfl,g1⟩
    have HF:Hid (Ending.returned (.int .i64 r.2)=Ending.returned (.int .i64 (bK g s0).2)∧In F0 w0 w1 (R (bK g s0).1)):=Lib.hid ⟨by rw [HE.out],by rw [HE.out];exact g1⟩
    clear g1 K HE
    go_wp2_with fail
    go_ret
    exact HF.out
  ·have hge:(fs.length:Int)≤(i:Int):=by omega
   have hil:g.take i=g:=List.take_of_length_le (by rw [HLEN.out];omega)
   rw [hil] at h0 ho
   have HF:Hid (Ending.returned (.int .i64 0)=Ending.returned (.int .i64 (bK g s0).2)∧In F0 w0 wr (R (bK g s0).1)):=Lib.hid ⟨by rw [h0],ho⟩
   clear h0 ho hil hlt
   go_wp2_with fail
   go_ret
   exact HF.out
theorem Hy {σ:Type} {g:List (σ→σ×Int)} {s0:σ} {I:Nat→σ→Prop} (h0:I 0 s0) (hI:∀ k f,g[k]?=some f→∀ s,I k s→I (k+1) (f s).1) :
  ∀ k,k≤g.length→(bK (g.take k) s0).2=0→I k (bK (g.take k) s0).1:=by
 intro k
 induction k with
 | zero=>intro _ _;exact h0
 | succ k ih=>
  intro hk he
  obtain⟨f,hf⟩:∃ f,g[k]?=some f:=⟨g[k],List.getElem?_eq_getElem hk⟩
  have e:bK (g.take (k+1)) s0=bM (bK (g.take k) s0) f:=by
   unfold bK;rw [List.take_add_one,hf];simp
  rw [e] at he ⊢
  by_cases hz:(bK (g.take k) s0).2=0
  ·rw [aT hz];exact hI k f hf _ (ih (by omega) hz)
  ·rw [aZ hz] at he;exact absurd he hz
theorem AR {σ:Type} (I:Nat→σ→Prop) (X:σ→List ax) (fb:Nat) (T:TypeId) (gs:List (σ→σ×Int)) (fs:List (FuncId×Array Value)) (hlen:gs.length=fs.length) (hsm:fs.length≤1000) (s0:σ) (c:Nat)
  (h0:I 0 s0) (hI:∀ k f,gs[k]?=some f→∀ s,I k s→I (k+1) (f s).1)
  (hent:∀ f∈fs,∀ args w',(callFunc f.1 args).run Tryz.prog w'=.ok (.enter f.1 args) w')
  (hstep:∀ (k:Nat) f g,fs[k]?=some f→gs[k]?=some g→∀ w' s,I k s→In F0 w0 w' (Cells fb (fs.map Ez).toArray T::X s) →
   Calls Tryz.prog f.1 f.2 w' fun e w''=>e=.returned (.int .i64 (g s).2)∧In F0 w0 w'' (Cells fb (fs.map Ez).toArray T::X (g s).1))
  (h:In F0 w0 w (Cells fb (fs.map Ez).toArray T::X s0)) :
  Calls Tryz.prog 118 #[.slice (some ⟨fb,0,none⟩) fs.length c] w fun e w'=>e=.returned (.int .i64 (bK gs s0).2)∧In F0 w0 w' (Cells fb (fs.map Ez).toArray T::X (bK gs s0).1):=
 Hw (fun s=>Cells fb (fs.map Ez).toArray T::X s) gs fs hlen hsm s0 fb c
  (fun s w' h' j v hv=>cell_of (h'.block 0 rfl) (by rw [← hv];simp))
  hent
  (fun i f gi hf hg w' hz h'=>hstep i f gi hf hg w' _ (Hy h0 hI i (by have:=(List.getElem?_eq_some_iff.1 hg).1;omega) hz) h') h
/-! The like where some are methods,bound to their receiver. -/
def AU (f:FuncId×Array Value×Array Value):Value:=.func (.func f.1) f.2.1 f.2.2
theorem NL {σ:Type} (R:σ→List ax) (g:List (σ→σ×Int)) (fs:List (FuncId×Array Value×Array Value)) (hlen:g.length=fs.length) (hsm:fs.length≤1000) (s0:σ) (b c:Nat)
  (hsrc:∀ s w',In F0 w0 w' (R s)→∀ (j:Nat) v,(fs.map AU)[j]?=some v→w'.cell? ⟨b,j,none⟩=some v)
  (hent:∀ f∈fs,∀ args w',(callFunc f.1 args).run Tryz.prog w'=.ok (.enter f.1 args) w')
  (hstep:∀ (i:Nat) f gi,fs[i]?=some f→g[i]?=some gi→∀ w',(bK (g.take i) s0).2=0→In F0 w0 w' (R (bK (g.take i) s0).1) →
   Calls Tryz.prog f.1 (f.2.1++f.2.2) w' fun e w''=>e=.returned (.int .i64 (gi (bK (g.take i) s0).1).2)∧In F0 w0 w'' (R (gi (bK (g.take i) s0).1).1))
  (h:In F0 w0 w (R s0)) :
  Calls Tryz.prog 118 #[.slice (some ⟨b,0,none⟩) fs.length c] w fun e w'=>e=.returned (.int .i64 (bK g s0).2)∧In F0 w0 w' (R (bK g s0).1):=by
 have HS:Hid (xK R g s0 fs.length F0 w0 (.int .i64 0) w):=Lib.hid ⟨0,rfl,Nat.zero_le _,rfl,h⟩
 have JZ:=Lib.hid hsrc
 have xL:=Lib.hid hent
 have QC:=Lib.hid hstep
 have HLEN:=Lib.hid hlen
 clear h hsrc hent hstep hlen
 go_enter Tryz.func118,Tryz.ntmps118
 go_wp2_with fail
 go_loopw [8] (xK R g s0 fs.length F0 w0) (fun k _=>fs.length - (intOf k).toNat)
 case atStart=>exact HS.out
 case round=>
  obtain⟨i,rfl,hi,h0,ho⟩:=hrel
  clear HS
  by_cases hlt:i < fs.length
  ·obtain⟨f,hf⟩:∃ f,fs[i]?=some f:=⟨fs[i],List.getElem?_eq_getElem hlt⟩
   obtain⟨gi,hg⟩:∃ gi,g[i]?=some gi:=⟨g[i]'(by rw [HLEN.out];exact hlt),List.getElem?_eq_getElem _⟩
   have c0:=JZ.out _ wr ho i (AU f) (by simp [hf])
   have eg:=xL.out f (List.mem_of_getElem? hf)
   have K:=Lib.hid (QC.out i f gi hf hg wr h0 ho)
   have hst:bK (g.take (i+1)) s0=gi (bK (g.take i) s0).1:=by
    unfold bK at h0 ⊢
    rw [List.take_add_one,hg]
    simp only [Option.toList_some,List.foldl_append,List.foldl_cons,List.foldl_nil]
    exact aT h0
   have hend:(gi (bK (g.take i) s0).1).2≠0→bK g s0=gi (bK (g.take i) s0).1:=fun hne=>by
    have e:g=g.take (i+1)++g.drop (i+1):=(List.take_append_drop _ _).symm
    have e2:bK g s0=(g.drop (i+1)).foldl bM (bK (g.take (i+1)) s0):=by
     unfold bK
     conv=>lhs;rw [e]
     rw [List.foldl_append]
    rw [e2,hst]
    exact Dh _ hne
   have HST:=Lib.hid hst
   have xM:=Lib.hid hend
   have hlt':(i:Int) < (fs.length:Int):=by omega
   clear ho hf hg hst hend h0 hlt
   unfold AU at c0
   obtain⟨QD,bnd,EA⟩:=f
   simp only at c0 eg K
   generalize gi (bK (g.take i) s0).1=r at *
   by_cases hr:r.2=0
   ·have Xy:=Lib.hid hr
    clear hr
    go_wp2_with fail
    refine K.out.mono ?_
    rintro e w1 ⟨rfl,g1⟩
    rw [Xy.out]
    have HR:Hid (xK R g s0 fs.length F0 w0 (.int .i64 (i+1)) w1):=Lib.hid ⟨i+1,by go_num,by omega,by rw [HST.out];exact Xy.out,by rw [HST.out];exact g1⟩
    clear g1 K HST xM Xy
    go_wp2_with fail
    go_roundw
    case rel=>exact HR.out
    case measure=>simp [intOf];omega
   ·have q:(r.2 != 0)=true:=by rw [bne_iff_ne];exact hr
    have HE:=Lib.hid (xM.out hr)
    clear hr HST xM
    go_wp2_with fail
    refine K.out.mono ?_
    rintro e w1 ⟨rfl,g1⟩
    have HF:Hid (Ending.returned (.int .i64 r.2)=Ending.returned (.int .i64 (bK g s0).2)∧In F0 w0 w1 (R (bK g s0).1)):=Lib.hid ⟨by rw [HE.out],by rw [HE.out];exact g1⟩
    clear g1 K HE
    go_wp2_with fail
    go_ret
    exact HF.out
  ·have hge:(fs.length:Int)≤(i:Int):=by omega
   have hil:g.take i=g:=List.take_of_length_le (by rw [HLEN.out];omega)
   rw [hil] at h0 ho
   have HF:Hid (Ending.returned (.int .i64 0)=Ending.returned (.int .i64 (bK g s0).2)∧In F0 w0 wr (R (bK g s0).1)):=Lib.hid ⟨by rw [h0],ho⟩
   clear h0 ho hil hlt
   go_wp2_with fail
   go_ret
   exact HF.out
theorem EB {σ:Type} (I:Nat→σ→Prop) (X:σ→List ax) (fb:Nat) (T:TypeId) (gs:List (σ→σ×Int)) (fs:List (FuncId×Array Value×Array Value)) (hlen:gs.length=fs.length) (hsm:fs.length≤1000) (s0:σ) (c:Nat)
  (h0:I 0 s0) (hI:∀ k f,gs[k]?=some f→∀ s,I k s→I (k+1) (f s).1)
  (hent:∀ f∈fs,∀ args w',(callFunc f.1 args).run Tryz.prog w'=.ok (.enter f.1 args) w')
  (hstep:∀ (k:Nat) f g,fs[k]?=some f→gs[k]?=some g→∀ w' s,I k s→In F0 w0 w' (Cells fb (fs.map AU).toArray T::X s) →
   Calls Tryz.prog f.1 (f.2.1++f.2.2) w' fun e w''=>e=.returned (.int .i64 (g s).2)∧In F0 w0 w'' (Cells fb (fs.map AU).toArray T::X (g s).1))
  (h:In F0 w0 w (Cells fb (fs.map AU).toArray T::X s0)) :
  Calls Tryz.prog 118 #[.slice (some ⟨fb,0,none⟩) fs.length c] w fun e w'=>e=.returned (.int .i64 (bK gs s0).2)∧In F0 w0 w' (Cells fb (fs.map AU).toArray T::X (bK gs s0).1):=
 NL (fun s=>Cells fb (fs.map AU).toArray T::X s) gs fs hlen hsm s0 fb c
  (fun s w' h' j v hv=>cell_of (h'.block 0 rfl) (by rw [← hv];simp))
  hent
  (fun i f gi hf hg w' hz h'=>hstep i f gi hf hg w' _ (Hy h0 hI i (by have:=(List.getElem?_eq_some_iff.1 hg).1;omega) hz) h') h
end
end Go.Proofs.YtanhdliaaccacaaGreat
