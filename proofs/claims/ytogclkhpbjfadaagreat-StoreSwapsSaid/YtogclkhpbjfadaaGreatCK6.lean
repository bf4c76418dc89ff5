/- Parts of the proofs that a compaction keeps what lives, and done again is as once. -/
import Derived.Test.YtogclkhpbjfadaaGreatCK4
import Derived.Test.YtogclkhpbjfadaaGreatCK3
namespace Go.Proofs.YtogclkhpbjfadaaGreat
open Go.RowKit
set_option linter.unusedVariables false
set_option maxHeartbeats 64000000
set_option maxRecDepth 100000
structure fP where
 gen:Int
 ax:List Bk
 bN:List (Int×Int)
 bU:List Fl
deriving DecidableEq,Inhabited
def aJ:fP:=⟨0,[],[],[]⟩
def upId:List Bk→Bool
 | a::b::r=>decide (a.id < b.id) && upId (b::r)
 | _=>true
def eU (l:List Bk):Bool:=decide (l.length≤16) && (l.all gu && upId l)
def stPutF (f:Fl):List Fl→List Fl
 | []=>[f]
 | x::r=>if uw x.t f.t=true then x::stPutF f r else if uw f.t x.t=true then f::x::r else f::r
def kH (t:rU) (L:List Fl):List Fl:=L.filter (fun x=>decide (x.t≠t))
def jY (t:rU) (L:List Fl):Bool:=L.any (fun x=>decide (x.t=t))
def stPutD (b u:Int):List (Int×Int)→List (Int×Int)
 | []=>[(b,u)]
 | x::r=>if x.1 < b then x::stPutD b u r else if b < x.1 then (b,u)::x::r else (b,u)::r
def kI (b:Int) (L:List (Int×Int)):List (Int×Int):=L.filter (fun x=>decide (x.1≠b))
def kJ (b:Int) (L:List (Int×Int)):Bool:=L.any (fun x=>decide (x.1=b))
def eZ (s:fP) (r:Rec):Bool:=
 if r.kind=1 then !jY r.fl.t s.bU && decide (256≤s.bU.length)
 else if r.kind=4 then !kJ r.bk s.bN && decide (16≤s.bN.length)
 else false
def oM (r:Rec):Bool:=!bT r || (decide (r.kind=6) || (decide (r.kind=3) && !eU r.ax))
def lG (s:fP) (r:Rec):fP:=
 if r.kind=1 then { s with bU:=stPutF r.fl s.bU }
 else if r.kind=2 then { s with bU:=kH r.fl.t s.bU }
 else if r.kind=3 then { s with gen:=r.gen,ax:=r.ax }
 else if r.kind=4 then { s with bN:=stPutD r.bk r.till s.bN }
 else if r.kind=5 then { s with bN:=kI r.bk s.bN }
 else s
def aX (s:fP) (r:Rec):fP×Int:=
 if oM r=true then (s,1) else if eZ s r=true then (s,9) else (lG s r,0)
def jZ (s:fP):Rec:=⟨3,aQ,s.gen,s.ax,0,0,0⟩
def iX (d:Int×Int):Rec:=⟨4,aQ,0,[],d.1,d.2,0⟩
def kT (f:Fl):Rec:=⟨1,f,0,[],0,0,0⟩
def aM (s:fP):List Rec:=jZ s::(s.bN.map iX++s.bU.map kT)
def applyAll:List Rec→fP→fP×Int
 | [],s=>(s,0)
 | r::l,s=>if (aX s r).2≠0 then aX s r else applyAll l (aX s r).1
def Cn (v:fP):Option fP×Int:=
 if (applyAll (aM v) aJ).2≠0 then (none,(applyAll (aM v) aJ).2)
 else if (applyAll (aM v) aJ).1=v then (some v,0) else (none,1)
def eP (v:Int) (s:fP):fP:=⟨s.gen,s.ax.map (fF v),s.bN,s.bU.map (oC v)⟩
def eO (s:fP) (f:cB):fP×Int:=if (jv f).2≠0∨(jv f).1.kind=6 then (s,3) else aX s (jv f).1
def rdAll:List cB→fP→fP×Int
 | [],s=>(s,0)
 | f::l,s=>if (eO s f).2≠0 then eO s f else rdAll l (eO s f).1
def oF (L:List Fl):Prop:=L.Pairwise (fun x y=>uw x.t y.t=true)
def pX (L:List (Int×Int)):Prop:=L.Pairwise (fun x y=>x.1 < y.1)
structure fU (s:fP):Prop where
 g0:0≤s.gen
 g1:s.gen≤1000000
 ax:eU s.ax=true
 addr:∀ b∈s.ax,0≤b.addr∧b.addr < 4294967296
 CO:pX s.bN
 Xk:∀ d∈s.bN,(0≤d.1∧d.1≤65535)∧0≤d.2∧d.2≤1099511627776
 PS:s.bN.length≤16
 CP:oF s.bU
 fwf:∀ f∈s.bU,Gy f.t
 Zo:∀ f∈s.bU,uM f
 eX:s.bU.length≤256
theorem fU.zero:fU aJ:=⟨by decide,by decide,rfl,by simp [aJ],List.Pairwise.nil,by simp [aJ],by decide,List.Pairwise.nil,by simp [aJ],by simp [aJ],by decide⟩
/-! ### Flows by tuple -/
theorem nN {f x:Fl}:∀ {L:List Fl},x∈stPutF f L→x=f∨x∈L
 | [],h=>by simp [stPutF] at h;exact Or.inl h
 | y::r,h=>by
  unfold stPutF at h
  split at h
  ·rcases List.mem_cons.1 h with rfl | h
   ·exact Or.inr (by simp)
   ·rcases nN h with h | h
    ·exact Or.inl h
    ·exact Or.inr (by simp [h])
  split at h
  ·rcases List.mem_cons.1 h with rfl | h
   ·exact Or.inl rfl
   ·exact Or.inr h
  ·rcases List.mem_cons.1 h with rfl | h
   ·exact Or.inl rfl
   ·exact Or.inr (by simp [h])
theorem yI {f:Fl}:∀ {L:List Fl},oF L→(stPutF f L).Perm (f::kH f.t L)
 | [],_=>List.Perm.refl _
 | x::r,h=>by
  obtain⟨h1,h2⟩:=List.pairwise_cons.1 h
  unfold stPutF
  split
  ·rename_i c
   have hx:x.t≠f.t:=fun e=>by rw [e,iq] at c;cases c
   have e:kH f.t (x::r)=x::kH f.t r:=by unfold kH;rw [List.filter_cons_of_pos (by simpa using hx)]
   rw [e]
   exact ((yI h2).cons x).trans (List.Perm.swap f x _)
  split
  ·rename_i c1 c2
   have e:kH f.t (x::r)=x::r:=by
    unfold kH
    rw [List.filter_eq_self]
    intro y hy
    have:uw f.t y.t=true:=by
     rcases List.mem_cons.1 hy with rfl | hy
     ·exact c2
     ·exact mh c2 (h1 y hy)
    simp only [decide_eq_true_eq]
    intro e;rw [e,iq] at this;cases this
   rw [e]
  ·rename_i c1 c2
   have ht:x.t=f.t:=tO (by simpa using c1) (by simpa using c2)
   have e:kH f.t (x::r)=r:=by
    unfold kH
    rw [List.filter_cons_of_neg (by simp [ht]),List.filter_eq_self]
    intro y hy
    have:=h1 y hy
    simp only [decide_eq_true_eq]
    intro e;rw [ht,e,iq] at this;cases this
   rw [e]
theorem Al {f:Fl}:∀ {L:List Fl},oF L→oF (stPutF f L)
 | [],_=>List.pairwise_singleton _ _
 | x::r,h=>by
  obtain⟨h1,h2⟩:=List.pairwise_cons.1 h
  unfold stPutF
  split
  ·rename_i c
   refine List.pairwise_cons.2 ⟨fun y hy=>?_,Al h2⟩
   rcases nN hy with rfl | hy
   ·exact c
   ·exact h1 y hy
  split
  ·rename_i c1 c2
   refine List.pairwise_cons.2 ⟨fun y hy=>?_,h⟩
   rcases List.mem_cons.1 hy with rfl | hy
   ·exact c2
   ·exact mh c2 (h1 y hy)
  ·rename_i c1 c2
   have ht:x.t=f.t:=tO (by simpa using c1) (by simpa using c2)
   exact List.pairwise_cons.2 ⟨fun y hy=>by rw [← ht];exact h1 y hy,h2⟩
theorem CQ (f:Fl):∀ L:List Fl,(stPutF f L).length≤L.length+1
 | []=>by simp [stPutF]
 | x::r=>by
  have:=CQ f r
  unfold stPutF
  split
  ·simp only [List.length_cons];omega
  split <;> simp
theorem qW {t:rU} {L:List Fl}:jY t L=true↔∃ x∈L,x.t=t:=by simp [jY]
theorem CR {f:Fl}:∀ {L:List Fl},oF L→jY f.t L=true→(stPutF f L).length=L.length
 | [],_,h=>by simp [jY] at h
 | x::r,h,hh=>by
  obtain⟨h1,h2⟩:=List.pairwise_cons.1 h
  obtain⟨y,hy,ht⟩:=qW.1 hh
  unfold stPutF
  split
  ·rename_i c
   rcases List.mem_cons.1 hy with rfl | hy
   ·rw [ht,iq] at c;cases c
   ·have:=CR h2 (qW.2 ⟨y,hy,ht⟩)
    simp only [List.length_cons];omega
  split
  ·rename_i c1 c2
   rcases List.mem_cons.1 hy with rfl | hy
   ·rw [ht,iq] at c2;cases c2
   ·have:=mh c2 (h1 y hy)
    rw [ht,iq] at this;cases this
  ·simp
theorem yJ {f:Fl}:∀ {L:List Fl},(∀ x∈L,uw x.t f.t=true)→stPutF f L=L++[f]
 | [],_=>rfl
 | x::r,h=>by
  unfold stPutF
  rw [if_pos (h x (by simp)),yJ (fun y hy=>h y (by simp [hy]))]
  rfl
theorem oF.filter {L:List Fl} (h:oF L) (p:Fl→Bool):oF (L.filter p):=List.Pairwise.filter p h
/-! ### Drains by number -/
theorem uS {b u:Int} {x:Int×Int}:∀ {L:List (Int×Int)},x∈stPutD b u L→x=(b,u)∨x∈L
 | [],h=>by simp [stPutD] at h;exact Or.inl h
 | y::r,h=>by
  unfold stPutD at h
  split at h
  ·rcases List.mem_cons.1 h with rfl | h
   ·exact Or.inr (by simp)
   ·rcases uS h with h | h
    ·exact Or.inl h
    ·exact Or.inr (by simp [h])
  split at h
  ·rcases List.mem_cons.1 h with rfl | h
   ·exact Or.inl rfl
   ·exact Or.inr h
  ·rcases List.mem_cons.1 h with rfl | h
   ·exact Or.inl rfl
   ·exact Or.inr (by simp [h])
theorem yK {b u:Int}:∀ {L:List (Int×Int)},pX L→(stPutD b u L).Perm ((b,u)::kI b L)
 | [],_=>List.Perm.refl _
 | x::r,h=>by
  obtain⟨h1,h2⟩:=List.pairwise_cons.1 h
  unfold stPutD
  split
  ·rename_i c
   have e:kI b (x::r)=x::kI b r:=by unfold kI;rw [List.filter_cons_of_pos (by simp;omega)]
   rw [e]
   exact ((yK h2).cons x).trans (List.Perm.swap (b,u) x _)
  split
  ·rename_i c1 c2
   have e:kI b (x::r)=x::r:=by
    unfold kI
    rw [List.filter_eq_self]
    intro y hy
    have:b < y.1:=by
     rcases List.mem_cons.1 hy with rfl | hy
     ·exact c2
     ·have:=h1 y hy;omega
    simp;omega
   rw [e]
  ·rename_i c1 c2
   have ht:x.1=b:=by omega
   have e:kI b (x::r)=r:=by
    unfold kI
    rw [List.filter_cons_of_neg (by simp [ht]),List.filter_eq_self]
    intro y hy
    have:=h1 y hy
    simp;omega
   rw [e]
theorem Am {b u:Int}:∀ {L:List (Int×Int)},pX L→pX (stPutD b u L)
 | [],_=>List.pairwise_singleton _ _
 | x::r,h=>by
  obtain⟨h1,h2⟩:=List.pairwise_cons.1 h
  unfold stPutD
  split
  ·rename_i c
   refine List.pairwise_cons.2 ⟨fun y hy=>?_,Am h2⟩
   rcases uS hy with rfl | hy
   ·exact c
   ·exact h1 y hy
  split
  ·rename_i c1 c2
   refine List.pairwise_cons.2 ⟨fun y hy=>?_,h⟩
   rcases List.mem_cons.1 hy with rfl | hy
   ·exact c2
   ·have:=h1 y hy;show b < y.1;omega
  ·rename_i c1 c2
   exact List.pairwise_cons.2 ⟨fun y hy=>by have:=h1 y hy;show b < y.1;omega,h2⟩
theorem CU (b u:Int):∀ L:List (Int×Int),(stPutD b u L).length≤L.length+1
 | []=>by simp [stPutD]
 | x::r=>by
  have:=CU b u r
  unfold stPutD
  split
  ·simp only [List.length_cons];omega
  split <;> simp
theorem qX {b:Int} {L:List (Int×Int)}:kJ b L=true↔∃ x∈L,x.1=b:=by simp [kJ]
theorem CV {b u:Int}:∀ {L:List (Int×Int)},pX L→kJ b L=true→(stPutD b u L).length=L.length
 | [],_,h=>by simp [kJ] at h
 | x::r,h,hh=>by
  obtain⟨h1,h2⟩:=List.pairwise_cons.1 h
  obtain⟨y,hy,ht⟩:=qX.1 hh
  unfold stPutD
  split
  ·rename_i c
   rcases List.mem_cons.1 hy with rfl | hy
   ·omega
   ·have:=CV (u:=u) h2 (qX.2 ⟨y,hy,ht⟩)
    simp only [List.length_cons];omega
  split
  ·rename_i c1 c2
   rcases List.mem_cons.1 hy with rfl | hy
   ·omega
   ·have:=h1 y hy;omega
  ·simp
theorem yL {b u:Int}:∀ {L:List (Int×Int)},(∀ x∈L,x.1 < b)→stPutD b u L=L++[(b,u)]
 | [],_=>rfl
 | x::r,h=>by
  unfold stPutD
  rw [if_pos (h x (by simp)),yL (fun y hy=>h y (by simp [hy]))]
  rfl
theorem pX.filter {L:List (Int×Int)} (h:pX L) (p:Int×Int→Bool):pX (L.filter p):=List.Pairwise.filter p h
/-! ### A record applied -/
theorem iY {r:Rec}:oM r=false↔bT r=true∧r.kind≠6∧(r.kind=3→eU r.ax=true):=by
 unfold oM
 simp only [Bool.or_eq_false_iff,Bool.not_eq_false',decide_eq_false_iff_not,Bool.and_eq_false_iff,Bool.not_eq_eq_eq_not,Bool.not_false]
 constructor
 ·rintro ⟨h1,h2,h3⟩
  refine⟨h1,h2,fun h=>?_⟩
  rcases h3 with h3 | h3
  ·exact absurd h h3
  ·exact h3
 ·rintro ⟨h1,h2,h3⟩
  refine⟨h1,h2,?_⟩
  by_cases h:r.kind=3
  ·exact Or.inr (h3 h)
  ·exact Or.inl h
theorem qY {s:fP} {r:Rec}:(aX s r).2=0↔oM r=false∧eZ s r=false:=by
 unfold aX
 cases oM r <;> cases eZ s r <;> simp
theorem Ao {s:fP} {r:Rec} (h:(aX s r).2=0):(aX s r).1=lG s r:=by
 obtain⟨h1,h2⟩:=qY.1 h
 unfold aX;rw [if_neg (by simp [h1]),if_neg (by simp [h2])]
theorem yM {s:fP} {r:Rec} (h:(aX s r).2≠0):(aX s r).1=s:=by
 unfold aX at h ⊢
 cases hb:oM r <;> cases hf:eZ s r <;> simp_all
theorem PT {s:fP} {r:Rec} (hk:r.kind=1) (h:eZ s r=false):jY r.fl.t s.bU=true∨s.bU.length < 256:=by
 unfold eZ at h;rw [if_pos hk] at h
 simp only [Bool.and_eq_false_iff,Bool.not_eq_false',decide_eq_false_iff_not] at h
 rcases h with h | h
 ·exact Or.inl h
 ·exact Or.inr (by omega)
theorem PU {s:fP} {r:Rec} (hk:r.kind=4) (h:eZ s r=false):kJ r.bk s.bN=true∨s.bN.length < 16:=by
 unfold eZ at h;rw [if_neg (by omega),if_pos hk] at h
 simp only [Bool.and_eq_false_iff,Bool.not_eq_false',decide_eq_false_iff_not] at h
 rcases h with h | h
 ·exact Or.inl h
 ·exact Or.inr (by omega)
theorem fU.apply {s:fP} (h:fU s) {r:Rec} (wr:mQ r):fU (aX s r).1:=by
 by_cases he:(aX s r).2=0
 case neg=>rw [yM he];exact h
 rw [Ao he]
 obtain⟨h1,h2⟩:=qY.1 he
 obtain⟨m1,m2,m3⟩:=iY.1 h1
 rw [dS] at m1
 obtain⟨a1,a2,a3,a4,a5,a6,a7,a8,a9,Xl,Xm⟩:=h
 rcases m1 with ⟨k,m⟩|⟨k,m⟩|⟨k,m,m',m''⟩|⟨k,m,m'⟩|⟨k,m⟩|⟨k,m⟩
 ·have e:lG s r={ s with bU:=stPutF r.fl s.bU }:=by unfold lG;rw [if_pos k]
  rw [e]
  refine⟨a1,a2,a3,a4,a5,a6,a7,Al a8,fun f hf=>?_,fun f hf=>?_,?_⟩
  ·rcases nN hf with rfl | hf
   ·exact wr.t
   ·exact a9 f hf
  ·rcases nN hf with rfl | hf
   ·exact m
   ·exact Xl f hf
  ·rcases PT k h2 with hh | hh
   ·show (stPutF r.fl s.bU).length≤256
    rw [CR a8 hh];exact Xm
   ·have:=CQ r.fl s.bU
    show (stPutF r.fl s.bU).length≤256
    omega
 ·have e:lG s r={ s with bU:=kH r.fl.t s.bU }:=by unfold lG;rw [if_neg (by omega),if_pos k]
  rw [e]
  exact⟨a1,a2,a3,a4,a5,a6,a7,a8.filter _,fun f hf=>a9 f ((List.mem_filter.1 hf).1),fun f hf=>Xl f ((List.mem_filter.1 hf).1),Nat.le_trans (List.length_filter_le _ _) Xm⟩
 ·have e:lG s r={ s with gen:=r.gen,ax:=r.ax }:=by unfold lG;rw [if_neg (by omega),if_neg (by omega),if_pos k]
  rw [e]
  exact⟨m.1,m.2,m3 k,wr.addr,a5,a6,a7,a8,a9,Xl,Xm⟩
 ·have e:lG s r={ s with bN:=stPutD r.bk r.till s.bN }:=by unfold lG;rw [if_neg (by omega),if_neg (by omega),if_neg (by omega),if_pos k]
  rw [e]
  refine⟨a1,a2,a3,a4,Am a5,fun d hd=>?_,?_,a8,a9,Xl,Xm⟩
  ·rcases uS hd with rfl | hd
   ·exact⟨m,m'⟩
   ·exact a6 d hd
  ·rcases PU k h2 with hh | hh
   ·show (stPutD r.bk r.till s.bN).length≤16
    rw [CV a5 hh];exact a7
   ·have:=CU r.bk r.till s.bN
    show (stPutD r.bk r.till s.bN).length≤16
    omega
 ·have e:lG s r={ s with bN:=kI r.bk s.bN }:=by unfold lG;rw [if_neg (by omega),if_neg (by omega),if_neg (by omega),if_neg (by omega),if_pos k]
  rw [e]
  exact⟨a1,a2,a3,a4,a5.filter _,fun d hd=>a6 d ((List.mem_filter.1 hd).1),Nat.le_trans (List.length_filter_le _ _) a7,a8,a9,Xl,Xm⟩
 ·omega
/-! ### A state made anew -/
theorem lH:∀ (a b:List Rec) (s:fP),applyAll (a++b) s=if (applyAll a s).2≠0 then applyAll a s else applyAll b (applyAll a s).1
 | [],b,s=>by simp [applyAll]
 | r::a,b,s=>by
  by_cases h:(aX s r).2≠0
  ·have e1:applyAll (r::(a++b)) s=aX s r:=if_pos h
   have e2:applyAll (r::a) s=aX s r:=if_pos h
   rw [List.cons_append,e1,e2,if_pos h]
  ·have e1:applyAll (r::(a++b)) s=applyAll (a++b) (aX s r).1:=if_neg h
   have e2:applyAll (r::a) s=applyAll a (aX s r).1:=if_neg h
   rw [List.cons_append,e1,e2,lH a b]
theorem PV {v:Int} {l:List Bk} (h:l.all gu=true):(l.map (fF v)).all gu=true:=by
 simp only [List.all_eq_true,List.mem_map] at h ⊢
 rintro _ ⟨b,hb,rfl⟩
 exact GM (h b hb)
theorem Er (v:Int) (b:Bk):(fF v b).id=b.id∧(fF v b).addr=b.addr:=by unfold fF;split <;> simp
theorem LW (v:Int):∀ l:List Bk,upId (l.map (fF v))=upId l
 | []=>rfl
 | [a]=>rfl
 | a::b::r=>by
  have ih:=LW v (b::r)
  simp only [List.map_cons] at ih ⊢
  simp only [upId,(Er v _).1,ih]
theorem uT {v:Int} {l:List Bk} (h:eU l=true):eU (l.map (fF v))=true:=by
 simp only [eU,Bool.and_eq_true] at h ⊢
 exact⟨by simpa using h.1,PV h.2.1,by rw [LW];exact h.2.2⟩
theorem mR {l:List Bk} (h:eU l=true):l.length≤16∧∀ b∈l,gu b=true:=by
 simp only [eU,Bool.and_eq_true,decide_eq_true_eq,List.all_eq_true] at h
 exact⟨h.1,h.2.1⟩
theorem Nl {s:fP} {g:Int} {l:List Bk} (h0:0≤g) (h1:g≤1000000) (h2:eU l=true) (r:Rec) (hk:r.kind=3) (hg:r.gen=g) (hb:r.ax=l):aX s r=({ s with gen:=g,ax:=l },0):=by
 subst hg hb
 obtain⟨l1,l2⟩:=mR h2
 have hb:oM r=false:=iY.2 ⟨dS.2 (Or.inr (Or.inr (Or.inl ⟨hk,⟨h0,h1⟩,l1,l2⟩))),by omega,fun _=>h2⟩
 have hf:eZ s r=false:=by unfold eZ;rw [if_neg (by omega),if_neg (by omega)]
 unfold aX;rw [if_neg (by simp [hb]),if_neg (by simp [hf])]
 unfold lG;rw [if_neg (by omega),if_neg (by omega),if_pos hk]
theorem PW {s:fP} {b u:Int} (h0:0≤b∧b≤65535) (h1:0≤u∧u≤1099511627776) (hn:kJ b s.bN=true∨s.bN.length < 16) (r:Rec) (hk:r.kind=4) (hb:r.bk=b) (hu:r.till=u):aX s r=({ s with bN:=stPutD b u s.bN },0):=by
 subst hb hu
 have hbad:oM r=false:=iY.2 ⟨dS.2 (Or.inr (Or.inr (Or.inr (Or.inl ⟨hk,h0,h1⟩)))),by omega,fun h=>by omega⟩
 have hf:eZ s r=false:=by
  unfold eZ;rw [if_neg (by omega),if_pos hk]
  rcases hn with hn | hn
  ·simp [hn]
  ·have:decide (16≤s.bN.length)=false:=decide_eq_false (by omega)
   rw [this];simp
 unfold aX;rw [if_neg (by simp [hbad]),if_neg (by simp [hf])]
 unfold lG;rw [if_neg (by omega),if_neg (by omega),if_neg (by omega),if_pos hk]
theorem PX {s:fP} {f:Fl} (h:uM f) (hn:jY f.t s.bU=true∨s.bU.length < 256) (r:Rec) (hk:r.kind=1) (hf:r.fl=f):aX s r=({ s with bU:=stPutF f s.bU },0):=by
 subst hf
 have hbad:oM r=false:=iY.2 ⟨dS.2 (Or.inl ⟨hk,h⟩),by omega,fun h=>by omega⟩
 have hf:eZ s r=false:=by
  unfold eZ;rw [if_pos hk]
  rcases hn with hn | hn
  ·simp [hn]
  ·have:decide (256≤s.bU.length)=false:=decide_eq_false (by omega)
   rw [this];simp
 unfold aX;rw [if_neg (by simp [hbad]),if_neg (by simp [hf])]
 unfold lG;rw [if_pos hk]
theorem PY {g:Rec→Rec} (hg:∀ d,(g (iX d)).kind=4∧(g (iX d)).bk=d.1∧(g (iX d)).till=d.2):∀ (L:List (Int×Int)) (s:fP),pX (s.bN++L)→(∀ d∈L,(0≤d.1∧d.1≤65535)∧0≤d.2∧d.2≤1099511627776)→s.bN.length+L.length≤16 →
  applyAll ((L.map iX).map g) s=({ s with bN:=s.bN++L },0)
 | [],s,_,_,_=>by simp [applyAll]
 | d::L,s,hs,hm,hl=>by
  obtain⟨g1,g2,g3⟩:=hg d
  obtain⟨m1,m2⟩:=hm d (by simp)
  have hlt:∀ x∈s.bN,x.1 < d.1:=fun x hx=>(List.pairwise_append.1 hs).2.2 x hx d (by simp)
  simp only [List.length_cons] at hl
  have e:=PW (s:=s) m1 m2 (Or.inr (by omega)) (g (iX d)) g1 g2 g3
  simp only [List.map_cons,applyAll]
  rw [e,if_neg (by simp)]
  have hp:stPutD d.1 d.2 s.bN=s.bN++[d]:=yL hlt
  have ih:=PY hg L { s with bN:=stPutD d.1 d.2 s.bN } (by show pX (stPutD d.1 d.2 s.bN++L);rw [hp,List.append_assoc];exact hs) (fun x hx=>hm x (by simp [hx])) (by show (stPutD d.1 d.2 s.bN).length+L.length≤16;rw [hp];simp;omega)
  rw [ih]
  show (({ s with bN:=stPutD d.1 d.2 s.bN++L }:fP),(0:Int))=_
  rw [hp,List.append_assoc];rfl
theorem PZ {g:Rec→Rec} {p:Fl→Fl} (hg:∀ f,(g (kT f)).kind=1∧(g (kT f)).fl=p f) (hp:∀ f,(p f).t=f.t) (hpm:∀ f,uM f→uM (p f)):∀ (L:List Fl) (s:fP),oF (s.bU++L)→(∀ f∈L,uM f)→s.bU.length+L.length≤256 →
  applyAll ((L.map kT).map g) s=({ s with bU:=s.bU++L.map p },0)
 | [],s,_,_,_=>by simp [applyAll]
 | f::L,s,hs,hm,hl=>by
  obtain⟨g1,g2⟩:=hg f
  have hlt:∀ x∈s.bU,uw x.t (p f).t=true:=fun x hx=>by rw [hp];exact (List.pairwise_append.1 hs).2.2 x hx f (by simp)
  simp only [List.length_cons] at hl
  have e:=PX (s:=s) (hpm f (hm f (by simp))) (Or.inr (by omega)) (g (kT f)) g1 g2
  simp only [List.map_cons,applyAll]
  rw [e,if_neg (by simp)]
  have hq:stPutF (p f) s.bU=s.bU++[p f]:=yJ hlt
  have ih:=PZ hg hp hpm L { s with bU:=stPutF (p f) s.bU } (by
   show oF (stPutF (p f) s.bU++L)
   rw [hq]
   unfold oF at hs ⊢
   rw [List.append_assoc,List.pairwise_append] at *
   refine⟨hs.1,?_,fun a ha b hb=>?_⟩
   ·rw [List.singleton_append,List.pairwise_cons] 
    have h2:=List.pairwise_cons.1 hs.2.1
    exact⟨fun b hb=>by rw [hp];exact h2.1 b hb,h2.2⟩
   ·rcases List.mem_append.1 hb with hb | hb
    ·simp at hb;subst hb;rw [hp];exact hs.2.2 a ha f (by simp)
    ·exact hs.2.2 a ha b (by simp [hb])) (fun x hx=>hm x (by simp [hx])) (by show (stPutF (p f) s.bU).length+L.length≤256;rw [hq];simp;omega)
  rw [ih]
  show (({ s with bU:=stPutF (p f) s.bU++L.map p }:fP),(0:Int))=_
  rw [hq,List.append_assoc];rfl
theorem GR {s:fP} (h:fU s) {g:Rec→Rec} {p:Fl→Fl} {q:List Bk→List Bk} (hg1:(g (jZ s)).kind=3∧(g (jZ s)).gen=s.gen∧(g (jZ s)).ax=q s.ax) (hq:eU (q s.ax)=true)
  (hg2:∀ d,(g (iX d)).kind=4∧(g (iX d)).bk=d.1∧(g (iX d)).till=d.2) (hg3:∀ f,(g (kT f)).kind=1∧(g (kT f)).fl=p f) (hp:∀ f,(p f).t=f.t) (hpm:∀ f,uM f→uM (p f)) :
  applyAll ((aM s).map g) aJ=(⟨s.gen,q s.ax,s.bN,s.bU.map p⟩,0):=by
 have e1:=Nl (s:=aJ) h.g0 h.g1 hq (g (jZ s)) hg1.1 hg1.2.1 hg1.2.2
 unfold aM
 rw [List.map_cons,List.map_append]
 simp only [applyAll]
 rw [e1,if_neg (by simp),lH]
 have e2:=PY hg2 s.bN { aJ with gen:=s.gen,ax:=q s.ax } (by simpa [aJ] using h.CO) h.Xk (by simpa [aJ] using h.PS)
 rw [e2,if_neg (by simp)]
 have e3:=PZ hg3 hp hpm s.bU { aJ with gen:=s.gen,ax:=q s.ax,bN:=([]:List (Int×Int))++s.bN } (by simpa [aJ] using h.CP) h.Zo (by simpa [aJ] using h.eX)
 rw [show (aJ.bN:List (Int×Int))=[] from rfl]
 simp only
 rw [e3]
 simp [aJ]
theorem LX {s:fP} (h:fU s):Cn s=(some s,0):=by
 have e:=GR h (g:=id) (p:=id) (q:=id) ⟨rfl,rfl,rfl⟩ h.ax (fun d=>⟨rfl,rfl,rfl⟩) (fun f=>⟨rfl,rfl⟩) (fun f=>rfl) (fun f hf=>hf)
 simp only [List.map_id,id] at e
 have e':applyAll (aM s) aJ=(s,0):=e
 unfold Cn
 rw [e'];simp
theorem Nn {v:Int} (hv:dQ v=true) (s:fP):dM (jZ s) v=⟨3,aQ,s.gen,s.ax.map (fF v),0,0,0⟩:=by
 unfold dM;rw [if_neg (by simp [hv])];simp [aO,jZ]
theorem Qa {v:Int} (hv:dQ v=true) (d:Int×Int):dM (iX d) v=iX d:=by
 unfold dM;rw [if_neg (by simp [hv])];simp [aO,iX]
theorem Qb {v:Int} (hv:dQ v=true) (f:Fl):dM (kT f) v=kT (oC v f):=by
 unfold dM;rw [if_neg (by simp [hv])];simp [aO,kT]
theorem LY {s:fP} (h:fU s) {v:Int} (hv:dQ v=true):applyAll ((aM s).map (fun r=>dM r v)) aJ=(eP v s,0):=
 GR h (p:=oC v) (q:=fun l=>l.map (fF v)) (by rw [Nn hv];exact⟨rfl,rfl,rfl⟩) (uT h.ax) (fun d=>by rw [Qa hv];exact⟨rfl,rfl,rfl⟩) (fun f=>by rw [Qb hv];exact⟨rfl,rfl⟩) (fun f=>rfl) (fun f hf=>Ag hf)
theorem mQ.recs {s:fP} (h:fU s):∀ r∈aM s,mQ r∧bT r=true∧r.kind≠6:=by
 intro r hr
 have z:Gy eH:=⟨by decide,by decide,by decide,by decide,by decide,by decide,by decide,by decide,by decide,by decide⟩
 simp only [aM,List.mem_cons,List.mem_append,List.mem_map] at hr
 rcases hr with rfl | ⟨d,hd,rfl⟩|⟨f,hf,rfl⟩
 ·obtain⟨l1,l2⟩:=mR h.ax
  exact⟨⟨z,h.addr⟩,dS.2 (Or.inr (Or.inr (Or.inl ⟨rfl,⟨h.g0,h.g1⟩,l1,l2⟩))),by simp [jZ]⟩
 ·exact⟨⟨z,by simp [iX]⟩,dS.2 (Or.inr (Or.inr (Or.inr (Or.inl ⟨rfl,h.Xk d hd⟩)))),by simp [iX]⟩
 ·exact⟨⟨h.fwf f hf,by simp [kT]⟩,dS.2 (Or.inl ⟨rfl,h.Zo f hf⟩),by simp [kT]⟩
theorem fU.eP {s:fP} (h:fU s) (v:Int):fU (eP v s):=by
 obtain⟨a1,a2,a3,a4,a5,a6,a7,a8,a9,Xl,Xm⟩:=h
 refine⟨a1,a2,uT a3,fun b hb=>?_,a5,a6,a7,?_,fun f hf=>?_,fun f hf=>?_,by simpa [Go.Proofs.YtogclkhpbjfadaaGreat.eP] using Xm⟩
 ·obtain⟨x,hx,rfl⟩:=List.mem_map.1 hb
  rw [(Er v x).2];exact a4 x hx
 ·show oF (s.bU.map (oC v))
  unfold oF;rw [List.pairwise_map];exact a8
 ·obtain⟨x,hx,rfl⟩:=List.mem_map.1 hf;exact a9 x hx
 ·obtain⟨x,hx,rfl⟩:=List.mem_map.1 hf;exact Ag (Xl x hx)
theorem nO {s:fP} (h:fU s):(aM s).length≤273:=by
 have h1:=h.PS;have h2:=h.eX
 simp [aM];omega
/-! ### A log read -/
theorem CW:∀ (a b:List cB) (s:fP),rdAll (a++b) s=if (rdAll a s).2≠0 then rdAll a s else rdAll b (rdAll a s).1
 | [],b,s=>by simp [rdAll]
 | r::a,b,s=>by
  by_cases h:(eO s r).2≠0
  ·have e1:rdAll (r::(a++b)) s=eO s r:=if_pos h
   have e2:rdAll (r::a) s=eO s r:=if_pos h
   rw [List.cons_append,e1,e2,if_pos h]
  ·have e1:rdAll (r::(a++b)) s=rdAll (a++b) (eO s r).1:=if_neg h
   have e2:rdAll (r::a) s=rdAll a (eO s r).1:=if_neg h
   rw [List.cons_append,e1,e2,CW a b]
theorem GU {s:fP} {r:Rec} {v:Int} (hv:dQ v=true) (h:(aX s r).2=0):(aX s (dM r v)).2=0:=by
 obtain⟨h1,h2⟩:=qY.1 h
 obtain⟨m1,m2,m3⟩:=iY.1 h1
 have hk:=qU (r:=r) hv
 have e:dM r v=⟨(aO r).kind,if r.kind=1 then oC v (aO r).fl else (aO r).fl,(aO r).gen,(aO r).ax.map (fF v),(aO r).bk,(aO r).till,(aO r).count⟩:=if_neg (by simp [hv])
 refine qY.2 ⟨iY.2 ⟨CK hv m1,by rw [hk];exact m2,fun hk3=>?_⟩,?_⟩
 ·rw [hk] at hk3
  rw [e];simp [aO,hk3];exact uT (m3 hk3)
 ·unfold eZ at h2 ⊢
  rw [hk]
  by_cases k1:r.kind=1
  ·rw [if_pos k1] at h2 ⊢
   rw [e];simp only [if_pos k1,aO];exact h2
  ·rw [if_neg k1] at h2 ⊢
   by_cases k4:r.kind=4
   ·rw [if_pos k4] at h2 ⊢
    rw [e];simp [aO,k4];simpa using h2
   ·rw [if_neg k4]
theorem GX {s:fP} {r:Rec} {v:Int} (wr:mQ r) (hv:dQ v=true) (hm:bT r=true) (h6:r.kind≠6):eO s (dh r v).1=aX s (dM r v):=by
 obtain⟨_,e⟩:=oK wr hv hm
 unfold eO
 rw [e]
 have:¬ ((0:Int)≠0∨(dM r v).kind=6):=by rw [qU hv];simp [h6]
 rw [if_neg this]
theorem Ap {v:Int} (hv:dQ v=true):∀ (l:List Rec) (s:fP),(∀ r∈l,mQ r∧bT r=true∧r.kind≠6)→rdAll (l.map (fun r=>(dh r v).1)) s=applyAll (l.map (fun r=>dM r v)) s
 | [],s,_=>rfl
 | r::l,s,h=>by
  obtain⟨h1,h2,h3⟩:=h r (by simp)
  simp only [List.map_cons,rdAll,applyAll,GX h1 hv h2 h3]
  rw [Ap hv l _ (fun x hx=>h x (by simp [hx]))]
theorem Ar {s:fP} (h:fU s) {v:Int} (hv:dQ v=true):rdAll ((aM s).map (fun r=>(dh r v).1)) aJ=(eP v s,0):=by
 rw [Ap hv _ _ (mQ.recs h),LY h hv]
def Xn (bs:List UInt8) (c k:Value):Prop:=∃ i:Nat,i≤bs.length∧k=.int .i64 i∧c=.int .u32 (jP 0xffffffff (bs.take i))
def Xo (c0:Nat) (c k:Value):Prop:=∃ j:Nat,j≤8∧k=.int .i64 j∧c=.int .u32 (crcBits j c0)
theorem qZ (a b:Nat) (ha:a < 4294967296) (hb:b < 4294967296):bits .xor .u32 (a:Int) (b:Int)=((a ^^^ b:Nat):Int):=by
 have hx:a ^^^ b < 2 ^ 32:=Nat.xor_lt_two_pow (by omega) (by omega)
 have h1:(BitVec.ofInt 32 (a:Int)).toNat=a:=by
  rw [BitVec.ofInt_natCast,BitVec.toNat_ofNat];exact Nat.mod_eq_of_lt (by omega)
 have h2:(BitVec.ofInt 32 (b:Int)).toNat=b:=by
  rw [BitVec.ofInt_natCast,BitVec.toNat_ofNat];exact Nat.mod_eq_of_lt (by omega)
 show IntKind.u32.wrap ((BitVec.ofInt 32 (a:Int) ^^^ BitVec.ofInt 32 (b:Int)).toNat:Int)=_
 rw [BitVec.toNat_xor,h1,h2]
 rw [show ∀ n,IntKind.u32.wrap n=n % 4294967296 from fun n=>by simp [IntKind.wrap,IntKind.bits,IntKind.signed]]
 omega
theorem Es (a b:Nat) (ha:a < 4294967296) (hb:b < 4294967296):bits .and .u32 (a:Int) (b:Int)=((a &&& b:Nat):Int):=by
 have hx:a &&& b < 2 ^ 32:=Nat.and_lt_two_pow _ (by omega)
 have h1:(BitVec.ofInt 32 (a:Int)).toNat=a:=by
  rw [BitVec.ofInt_natCast,BitVec.toNat_ofNat];exact Nat.mod_eq_of_lt (by omega)
 have h2:(BitVec.ofInt 32 (b:Int)).toNat=b:=by
  rw [BitVec.ofInt_natCast,BitVec.toNat_ofNat];exact Nat.mod_eq_of_lt (by omega)
 show IntKind.u32.wrap ((BitVec.ofInt 32 (a:Int) &&& BitVec.ofInt 32 (b:Int)).toNat:Int)=_
 rw [BitVec.toNat_and,h1,h2]
 rw [show ∀ n,IntKind.u32.wrap n=n % 4294967296 from fun n=>by simp [IntKind.wrap,IntKind.bits,IntKind.signed]]
 omega
theorem and_one {c:Nat} (hc:c < 4294967296):bits .and .u32 (c:Int) 1=((c % 2:Nat):Int):=by
 have:=Es c 1 hc (by omega)
 rw [Nat.and_one_is_mod] at this
 exact this
theorem Qc {c:Nat} (hc:c < 4294967296):bits .xor .u32 ((c:Int) / 2) 2197175160=((c / 2 ^^^ 0x82f63b78:Nat):Int):=by
 have:=qZ (c / 2) 0x82f63b78 (by omega) (by omega)
 rwa [show (((c / 2:Nat):Nat):Int)=(c:Int) / 2 by omega] at this
theorem vY {w:World} {A:Option Addr} {bs:List UInt8} {c:Nat} (h:Src w A bs.length 1 (eD bs)) (hl:bs.length≤100000000) :
  Calls Tryz.prog 157 #[.slice A bs.length c] w fun e w'=>e=.returned (.int .u32 (crc bs))∧w'=w:=by
 have H:=Lib.hid h
 clear h
 go_enter Tryz.func157,Tryz.ntmps157
 go_wp2_with fail
 go_loop [3,9] (Xn bs) (fun _ k=>bs.length - (intOf k).toNat)
 case atStart=>exact⟨0,Nat.zero_le _,rfl,rfl⟩
 case round=>
  obtain⟨i,hi,rfl,rfl⟩:=hrel
  have hc32:=qP (bs.take i) (c:=0xffffffff) (by omega)
  by_cases hlt:i < bs.length
  ·obtain⟨x,hx⟩:∃ x,bs[i]?=some x:=⟨bs[i],List.getElem?_eq_getElem hlt⟩
   obtain⟨ad,rfl,hc⟩:=H.out.at' (by omega)
   have c0:=hc i (.int .u8 x.toNat) (by simp [eD,hx])
   have hlt':(i:Int) < (bs.length:Int):=by omega
   have HX:Hid (jP 0xffffffff (bs.take (i+1))=crcBits 8 (jP 0xffffffff (bs.take i) ^^^ x.toNat)):=Lib.hid (by
    rw [List.take_add_one,hx];exact Em _ _ _)
   have hq:=qZ _ x.toNat hc32 (by have:=x.toNat_lt;omega)
   have hb:jP 0xffffffff (bs.take i) ^^^ x.toNat < 4294967296:=vS hc32 (by have:=x.toNat_lt;omega)
   have hxl:=x.toNat_lt
   clear hx hc
   generalize jP 0xffffffff (bs.take i)=c0' at *
   generalize (x.toNat)=xn at *
   go_wp2_with fail
   go_loop [3,17] (Xo (c0' ^^^ xn)) (fun _ k=>8 - (intOf k).toNat)
   case atStart=>exact⟨0,by omega,rfl,by simp [crcBits]⟩
   case round=>
    obtain⟨j,hj,rfl,rfl⟩:=hrel
    have hcb:=uN j hb
    have HS:=Lib.hid (vT j (c0' ^^^ xn))
    clear hq
    by_cases hjl:j < 8
    ·have q1:=and_one hcb
     have q2:=Qc hcb
     generalize crcBits j (c0' ^^^ xn)=cj at *
     have abd:(j:Int) < 8:=by omega
     by_cases h2:cj % 2=1
     ·have HB:Hid (qO cj=(cj / 2) ^^^ 0x82f63b78):=Lib.hid (by rw [qO,if_pos h2])
      have q3:(((cj % 2:Nat):Int) == 1)=true:=by rw [h2];rfl
      clear h2
      go_wp2_with fail
      go_round
      case rel=>exact⟨j+1,by omega,by go_num,by rw [HS.out,HB.out]⟩
      case measure=>simp [intOf];omega
     ·have HB:Hid (qO cj=cj / 2):=Lib.hid (by rw [qO,if_neg h2])
      have q3:(((cj % 2:Nat):Int) == 1)=false:=by rw [beq_eq_false_iff_ne];omega
      clear h2
      go_wp2_with fail
      go_round
      case rel=>exact⟨j+1,by omega,by go_num,by rw [HS.out,HB.out];simp⟩
      case measure=>simp [intOf];omega
    ·obtain rfl:j=8:=by omega
     go_wp2_with fail
     go_round
     case rel=>exact⟨i+1,by omega,by go_num,by rw [HX.out]⟩
     case measure=>simp [intOf];omega
  ·have hil:i=bs.length:=by omega
   subst hil
   have hq:=qZ 4294967295 (jP 0xffffffff (bs.take bs.length)) (by omega) hc32
   have HE:Hid (crc bs=jP 0xffffffff (bs.take bs.length) ^^^ 4294967295):=Lib.hid (by rw [List.take_length];rfl)
   have hb:=qP (bs.take bs.length) (c:=0xffffffff) (by omega)
   generalize jP 0xffffffff (bs.take bs.length)=cc at *
   go_wp2_with fail
   go_ret
   refine⟨?_,rfl⟩
   rw [HE.out]
   show Ending.returned (.int .u32 (bits .xor .u32 IntKind.u32.max (cc:Int)))=_
   rw [show IntKind.u32.max=((4294967295:Nat):Int) by rfl,hq,Nat.xor_comm]
end Go.Proofs.YtogclkhpbjfadaaGreat
