/- Rows.StoreRefusesSaid -/
import Derived.Test.YtpmmiljakbojaaaGreatRF2
import Derived.Test.YtpmmiljakbojaaaGreatRF8
namespace Go.Proofs.YtpmmiljakbojaaaGreat
open Go.RowKit
set_option linter.unusedVariables false
set_option maxHeartbeats 64000000
set_option maxRecDepth 100000
def foldD {σ:Type} (g:List (σ→σ×Int)) (s:σ):σ×Int:=g.foldl thenD (s,0)
theorem foldD_err {σ:Type} (g:List (σ→σ×Int)) {r:σ×Int} (h:r.2≠0):g.foldl thenD r=r:=by
 induction g with
 | nil=>rfl
 | cons f g ih=>
  rw [List.foldl_cons,show thenD r f=r from by unfold thenD;rw [if_neg h]]
  exact ih
theorem thenD_ok {σ:Type} {r:σ×Int} {f:σ→σ×Int} (h:r.2=0):thenD r f=f r.1:=if_pos h
theorem thenD_err {σ:Type} {r:σ×Int} {f:σ→σ×Int} (h:r.2≠0):thenD r f=r:=if_neg h
def fnV (f:FuncId×Array Value):Value:=.func (.func f.1) #[] f.2
section
variable {F0:List Nat} {w0 w:World}
def AllRel {σ:Type} (R:σ→List Asrt) (g:List (σ→σ×Int)) (s0:σ) (n:Nat) (F0:List Nat) (w0:World) (k:Value) (wr:World):Prop:=
 ∃ i:Nat,k=.int .i64 i∧i≤n∧(foldD (g.take i) s0).2=0∧In F0 w0 wr (R (foldD (g.take i) s0).1)
theorem all_call {σ:Type} (R:σ→List Asrt) (g:List (σ→σ×Int)) (fs:List (FuncId×Array Value)) (hlen:g.length=fs.length) (hsm:fs.length≤1000) (s0:σ) (b c:Nat)
  (hsrc:∀ s w',In F0 w0 w' (R s)→∀ (j:Nat) v,(fs.map fnV)[j]?=some v→w'.cell? ⟨b,j,none⟩=some v)
  (hent:∀ f∈fs,∀ args w',(callFunc f.1 args).run Tryz.prog w'=.ok (.enter f.1 args) w')
  (hstep:∀ (i:Nat) f gi,fs[i]?=some f→g[i]?=some gi→∀ w',(foldD (g.take i) s0).2=0→In F0 w0 w' (R (foldD (g.take i) s0).1) →
   Calls Tryz.prog f.1 f.2 w' fun e w''=>e=.returned (.int .i64 (gi (foldD (g.take i) s0).1).2)∧In F0 w0 w'' (R (gi (foldD (g.take i) s0).1).1))
  (h:In F0 w0 w (R s0)) :
  Calls Tryz.prog 43 #[.slice (some ⟨b,0,none⟩) fs.length c] w fun e w'=>e=.returned (.int .i64 (foldD g s0).2)∧In F0 w0 w' (R (foldD g s0).1):=by
 have HS:Hid (AllRel R g s0 fs.length F0 w0 (.int .i64 0) w):=Lib.hid ⟨0,rfl,Nat.zero_le _,rfl,h⟩
 have HSRC:=Lib.hid hsrc
 have HENT:=Lib.hid hent
 have HSTEP:=Lib.hid hstep
 have HLEN:=Lib.hid hlen
 clear h hsrc hent hstep hlen
 go_enter Tryz.func43,Tryz.ntmps43
 go_wp2_with fail
 go_loopw [8] (AllRel R g s0 fs.length F0 w0) (fun k _=>fs.length - (intOf k).toNat)
 case atStart=>exact HS.out
 case round=>
  obtain⟨i,rfl,hi,h0,ho⟩:=hrel
  clear HS
  by_cases hlt:i < fs.length
  ·obtain⟨f,hf⟩:∃ f,fs[i]?=some f:=⟨fs[i],List.getElem?_eq_getElem hlt⟩
   obtain⟨gi,hg⟩:∃ gi,g[i]?=some gi:=⟨g[i]'(by rw [HLEN.out];exact hlt),List.getElem?_eq_getElem _⟩
   have c0:=HSRC.out _ wr ho i (fnV f) (by simp [hf])
   have eg:=HENT.out f (List.mem_of_getElem? hf)
   have K:=Lib.hid (HSTEP.out i f gi hf hg wr h0 ho)
   have hst:foldD (g.take (i+1)) s0=gi (foldD (g.take i) s0).1:=by
    unfold foldD at h0 ⊢
    rw [List.take_add_one,hg]
    simp only [Option.toList_some,List.foldl_append,List.foldl_cons,List.foldl_nil]
    exact thenD_ok h0
   have hend:(gi (foldD (g.take i) s0).1).2≠0→foldD g s0=gi (foldD (g.take i) s0).1:=fun hne=>by
    have e:g=g.take (i+1)++g.drop (i+1):=(List.take_append_drop _ _).symm
    have e2:foldD g s0=(g.drop (i+1)).foldl thenD (foldD (g.take (i+1)) s0):=by
     unfold foldD
     conv=>lhs;rw [e]
     rw [List.foldl_append]
    rw [e2,hst]
    exact foldD_err _ hne
   have HST:=Lib.hid hst
   have HEND:=Lib.hid hend
   have hlt':(i:Int) < (fs.length:Int):=by omega
   clear ho hf hg hst hend h0 hlt
   unfold fnV at c0
   obtain⟨fid,caps⟩:=f
   simp only at c0 eg K
   generalize gi (foldD (g.take i) s0).1=r at *
   by_cases hr:r.2=0
   ·have HRZ:=Lib.hid hr
    clear hr
    go_wp2_with fail
    refine K.out.mono ?_
    rintro e w1 ⟨rfl,g1⟩
    rw [HRZ.out]
    have HR:Hid (AllRel R g s0 fs.length F0 w0 (.int .i64 (i+1)) w1):=Lib.hid ⟨i+1,by go_num,by omega,by rw [HST.out];exact HRZ.out,by rw [HST.out];exact g1⟩
    clear g1 K HST HEND HRZ
    go_wp2_with fail
    go_roundw
    case rel=>exact HR.out
    case measure=>simp [intOf];omega
   ·have q:(r.2 != 0)=true:=by rw [bne_iff_ne];exact hr
    have HE:=Lib.hid (HEND.out hr)
    clear hr HST HEND
    go_wp2_with fail
    refine K.out.mono ?_
    rintro e w1 ⟨rfl,g1⟩
    have HF:Hid (Ending.returned (.int .i64 r.2)=Ending.returned (.int .i64 (foldD g s0).2)∧In F0 w0 w1 (R (foldD g s0).1)):=Lib.hid ⟨by rw [HE.out],by rw [HE.out];exact g1⟩
    clear g1 K HE
    go_wp2_with fail
    go_ret
    exact HF.out
  ·have hge:(fs.length:Int)≤(i:Int):=by omega
   have hil:g.take i=g:=List.take_of_length_le (by rw [HLEN.out];omega)
   rw [hil] at h0 ho
   have HF:Hid (Ending.returned (.int .i64 0)=Ending.returned (.int .i64 (foldD g s0).2)∧In F0 w0 wr (R (foldD g s0).1)):=Lib.hid ⟨by rw [h0],ho⟩
   clear h0 ho hil hlt
   go_wp2_with fail
   go_ret
   exact HF.out
theorem fold_inv {σ:Type} {g:List (σ→σ×Int)} {s0:σ} {I:Nat→σ→Prop} (h0:I 0 s0) (hI:∀ k f,g[k]?=some f→∀ s,I k s→I (k+1) (f s).1) :
  ∀ k,k≤g.length→(foldD (g.take k) s0).2=0→I k (foldD (g.take k) s0).1:=by
 intro k
 induction k with
 | zero=>intro _ _;exact h0
 | succ k ih=>
  intro hk he
  obtain⟨f,hf⟩:∃ f,g[k]?=some f:=⟨g[k],List.getElem?_eq_getElem hk⟩
  have e:foldD (g.take (k+1)) s0=thenD (foldD (g.take k) s0) f:=by
   unfold foldD;rw [List.take_add_one,hf];simp
  rw [e] at he ⊢
  by_cases hz:(foldD (g.take k) s0).2=0
  ·rw [thenD_ok hz];exact hI k f hf _ (ih (by omega) hz)
  ·rw [thenD_err hz] at he;exact absurd he hz
theorem all_fn {σ:Type} (I:Nat→σ→Prop) (X:σ→List Asrt) (fb:Nat) (T:TypeId) (gs:List (σ→σ×Int)) (fs:List (FuncId×Array Value)) (hlen:gs.length=fs.length) (hsm:fs.length≤1000) (s0:σ) (c:Nat)
  (h0:I 0 s0) (hI:∀ k f,gs[k]?=some f→∀ s,I k s→I (k+1) (f s).1)
  (hent:∀ f∈fs,∀ args w',(callFunc f.1 args).run Tryz.prog w'=.ok (.enter f.1 args) w')
  (hstep:∀ (k:Nat) f g,fs[k]?=some f→gs[k]?=some g→∀ w' s,I k s→In F0 w0 w' (Cells fb (fs.map fnV).toArray T::X s) →
   Calls Tryz.prog f.1 f.2 w' fun e w''=>e=.returned (.int .i64 (g s).2)∧In F0 w0 w'' (Cells fb (fs.map fnV).toArray T::X (g s).1))
  (h:In F0 w0 w (Cells fb (fs.map fnV).toArray T::X s0)) :
  Calls Tryz.prog 43 #[.slice (some ⟨fb,0,none⟩) fs.length c] w fun e w'=>e=.returned (.int .i64 (foldD gs s0).2)∧In F0 w0 w' (Cells fb (fs.map fnV).toArray T::X (foldD gs s0).1):=
 all_call (fun s=>Cells fb (fs.map fnV).toArray T::X s) gs fs hlen hsm s0 fb c
  (fun s w' h' j v hv=>cell_of (h'.block 0 rfl) (by rw [← hv];simp))
  hent
  (fun i f gi hf hg w' hz h'=>hstep i f gi hf hg w' _ (fold_inv h0 hI i (by have:=(List.getElem?_eq_some_iff.1 hg).1;omega) hz) h') h
/-! The like where some are methods,bound to their receiver. -/
def fnV3 (f:FuncId×Array Value×Array Value):Value:=.func (.func f.1) f.2.1 f.2.2
theorem all_call3 {σ:Type} (R:σ→List Asrt) (g:List (σ→σ×Int)) (fs:List (FuncId×Array Value×Array Value)) (hlen:g.length=fs.length) (hsm:fs.length≤1000) (s0:σ) (b c:Nat)
  (hsrc:∀ s w',In F0 w0 w' (R s)→∀ (j:Nat) v,(fs.map fnV3)[j]?=some v→w'.cell? ⟨b,j,none⟩=some v)
  (hent:∀ f∈fs,∀ args w',(callFunc f.1 args).run Tryz.prog w'=.ok (.enter f.1 args) w')
  (hstep:∀ (i:Nat) f gi,fs[i]?=some f→g[i]?=some gi→∀ w',(foldD (g.take i) s0).2=0→In F0 w0 w' (R (foldD (g.take i) s0).1) →
   Calls Tryz.prog f.1 (f.2.1++f.2.2) w' fun e w''=>e=.returned (.int .i64 (gi (foldD (g.take i) s0).1).2)∧In F0 w0 w'' (R (gi (foldD (g.take i) s0).1).1))
  (h:In F0 w0 w (R s0)) :
  Calls Tryz.prog 43 #[.slice (some ⟨b,0,none⟩) fs.length c] w fun e w'=>e=.returned (.int .i64 (foldD g s0).2)∧In F0 w0 w' (R (foldD g s0).1):=by
 have HS:Hid (AllRel R g s0 fs.length F0 w0 (.int .i64 0) w):=Lib.hid ⟨0,rfl,Nat.zero_le _,rfl,h⟩
 have HSRC:=Lib.hid hsrc
 have HENT:=Lib.hid hent
 have HSTEP:=Lib.hid hstep
 have HLEN:=Lib.hid hlen
 clear h hsrc hent hstep hlen
 go_enter Tryz.func43,Tryz.ntmps43
 go_wp2_with fail
 go_loopw [8] (AllRel R g s0 fs.length F0 w0) (fun k _=>fs.length - (intOf k).toNat)
 case atStart=>exact HS.out
 case round=>
  obtain⟨i,rfl,hi,h0,ho⟩:=hrel
  clear HS
  by_cases hlt:i < fs.length
  ·obtain⟨f,hf⟩:∃ f,fs[i]?=some f:=⟨fs[i],List.getElem?_eq_getElem hlt⟩
   obtain⟨gi,hg⟩:∃ gi,g[i]?=some gi:=⟨g[i]'(by rw [HLEN.out];exact hlt),List.getElem?_eq_getElem _⟩
   have c0:=HSRC.out _ wr ho i (fnV3 f) (by simp [hf])
   have eg:=HENT.out f (List.mem_of_getElem? hf)
   have K:=Lib.hid (HSTEP.out i f gi hf hg wr h0 ho)
   have hst:foldD (g.take (i+1)) s0=gi (foldD (g.take i) s0).1:=by
    unfold foldD at h0 ⊢
    rw [List.take_add_one,hg]
    simp only [Option.toList_some,List.foldl_append,List.foldl_cons,List.foldl_nil]
    exact thenD_ok h0
   have hend:(gi (foldD (g.take i) s0).1).2≠0→foldD g s0=gi (foldD (g.take i) s0).1:=fun hne=>by
    have e:g=g.take (i+1)++g.drop (i+1):=(List.take_append_drop _ _).symm
    have e2:foldD g s0=(g.drop (i+1)).foldl thenD (foldD (g.take (i+1)) s0):=by
     unfold foldD
     conv=>lhs;rw [e]
     rw [List.foldl_append]
    rw [e2,hst]
    exact foldD_err _ hne
   have HST:=Lib.hid hst
   have HEND:=Lib.hid hend
   have hlt':(i:Int) < (fs.length:Int):=by omega
   clear ho hf hg hst hend h0 hlt
   unfold fnV3 at c0
   obtain⟨fid,bnd,caps⟩:=f
   simp only at c0 eg K
   generalize gi (foldD (g.take i) s0).1=r at *
   by_cases hr:r.2=0
   ·have HRZ:=Lib.hid hr
    clear hr
    go_wp2_with fail
    refine K.out.mono ?_
    rintro e w1 ⟨rfl,g1⟩
    rw [HRZ.out]
    have HR:Hid (AllRel R g s0 fs.length F0 w0 (.int .i64 (i+1)) w1):=Lib.hid ⟨i+1,by go_num,by omega,by rw [HST.out];exact HRZ.out,by rw [HST.out];exact g1⟩
    clear g1 K HST HEND HRZ
    go_wp2_with fail
    go_roundw
    case rel=>exact HR.out
    case measure=>simp [intOf];omega
   ·have q:(r.2 != 0)=true:=by rw [bne_iff_ne];exact hr
    have HE:=Lib.hid (HEND.out hr)
    clear hr HST HEND
    go_wp2_with fail
    refine K.out.mono ?_
    rintro e w1 ⟨rfl,g1⟩
    have HF:Hid (Ending.returned (.int .i64 r.2)=Ending.returned (.int .i64 (foldD g s0).2)∧In F0 w0 w1 (R (foldD g s0).1)):=Lib.hid ⟨by rw [HE.out],by rw [HE.out];exact g1⟩
    clear g1 K HE
    go_wp2_with fail
    go_ret
    exact HF.out
  ·have hge:(fs.length:Int)≤(i:Int):=by omega
   have hil:g.take i=g:=List.take_of_length_le (by rw [HLEN.out];omega)
   rw [hil] at h0 ho
   have HF:Hid (Ending.returned (.int .i64 0)=Ending.returned (.int .i64 (foldD g s0).2)∧In F0 w0 wr (R (foldD g s0).1)):=Lib.hid ⟨by rw [h0],ho⟩
   clear h0 ho hil hlt
   go_wp2_with fail
   go_ret
   exact HF.out
theorem all_fn3 {σ:Type} (I:Nat→σ→Prop) (X:σ→List Asrt) (fb:Nat) (T:TypeId) (gs:List (σ→σ×Int)) (fs:List (FuncId×Array Value×Array Value)) (hlen:gs.length=fs.length) (hsm:fs.length≤1000) (s0:σ) (c:Nat)
  (h0:I 0 s0) (hI:∀ k f,gs[k]?=some f→∀ s,I k s→I (k+1) (f s).1)
  (hent:∀ f∈fs,∀ args w',(callFunc f.1 args).run Tryz.prog w'=.ok (.enter f.1 args) w')
  (hstep:∀ (k:Nat) f g,fs[k]?=some f→gs[k]?=some g→∀ w' s,I k s→In F0 w0 w' (Cells fb (fs.map fnV3).toArray T::X s) →
   Calls Tryz.prog f.1 (f.2.1++f.2.2) w' fun e w''=>e=.returned (.int .i64 (g s).2)∧In F0 w0 w'' (Cells fb (fs.map fnV3).toArray T::X (g s).1))
  (h:In F0 w0 w (Cells fb (fs.map fnV3).toArray T::X s0)) :
  Calls Tryz.prog 43 #[.slice (some ⟨fb,0,none⟩) fs.length c] w fun e w'=>e=.returned (.int .i64 (foldD gs s0).2)∧In F0 w0 w' (Cells fb (fs.map fnV3).toArray T::X (foldD gs s0).1):=
 all_call3 (fun s=>Cells fb (fs.map fnV3).toArray T::X s) gs fs hlen hsm s0 fb c
  (fun s w' h' j v hv=>cell_of (h'.block 0 rfl) (by rw [← hv];simp))
  hent
  (fun i f gi hf hg w' hz h'=>hstep i f gi hf hg w' _ (fold_inv h0 hI i (by have:=(List.getElem?_eq_some_iff.1 hg).1;omega) hz) h') h
end
end Go.Proofs.YtpmmiljakbojaaaGreat
