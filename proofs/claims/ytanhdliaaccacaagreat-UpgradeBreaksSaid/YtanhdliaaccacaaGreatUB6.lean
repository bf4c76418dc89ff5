/- .. -/
import Derived.Test.YtanhdliaaccacaaGreatUB4
import Derived.Test.YtanhdliaaccacaaGreatUB3
namespace Go.Proofs.YtanhdliaaccacaaGreat
open Go.RowKit
set_option linter.unusedVariables false
set_option maxHeartbeats 64000000
set_option maxRecDepth 100000
structure eT where
 gen:Int
 au:List Bk
 bL:List (Int×Int)
 bS:List Fl
deriving DecidableEq,Inhabited
def aH:eT:=⟨0,[],[],[]⟩
def upId:List Bk→Bool
 | a::b::r=>decide (a.id < b.id) && upId (b::r)
 | _=>true
def fu (l:List Bk):Bool:=decide (l.length≤16) && (l.all gy && upId l)
def stPutF (f:Fl):List Fl→List Fl
 | []=>[f]
 | x::r=>if uE x.t f.t=true then x::stPutF f r else if uE f.t x.t=true then f::x::r else f::r
def kG (t:rX) (L:List Fl):List Fl:=L.filter (fun x=>decide (x.t≠t))
def jX (t:rX) (L:List Fl):Bool:=L.any (fun x=>decide (x.t=t))
def stPutD (b u:Int):List (Int×Int)→List (Int×Int)
 | []=>[(b,u)]
 | x::r=>if x.1 < b then x::stPutD b u r else if b < x.1 then (b,u)::x::r else (b,u)::r
def kH (b:Int) (L:List (Int×Int)):List (Int×Int):=L.filter (fun x=>decide (x.1≠b))
def kI (b:Int) (L:List (Int×Int)):Bool:=L.any (fun x=>decide (x.1=b))
def fF (s:eT) (r:Rec):Bool:=
 if r.kind=1 then !jX r.fl.t s.bS && decide (256≤s.bS.length)
 else if r.kind=4 then !kI r.bk s.bL && decide (16≤s.bL.length)
 else false
def oM (r:Rec):Bool:=!bR r || (decide (r.kind=6) || (decide (r.kind=3) && !fu r.au))
def lF (s:eT) (r:Rec):eT:=
 if r.kind=1 then { s with bS:=stPutF r.fl s.bS }
 else if r.kind=2 then { s with bS:=kG r.fl.t s.bS }
 else if r.kind=3 then { s with gen:=r.gen,au:=r.au }
 else if r.kind=4 then { s with bL:=stPutD r.bk r.till s.bL }
 else if r.kind=5 then { s with bL:=kH r.bk s.bL }
 else s
def aX (s:eT) (r:Rec):eT×Int:=
 if oM r=true then (s,1) else if fF s r=true then (s,9) else (lF s r,0)
def jY (s:eT):Rec:=⟨3,aQ,s.gen,s.au,0,0,0⟩
def iV (d:Int×Int):Rec:=⟨4,aQ,0,[],d.1,d.2,0⟩
def kT (f:Fl):Rec:=⟨1,f,0,[],0,0,0⟩
def aS (s:eT):List Rec:=jY s::(s.bL.map iV++s.bS.map kT)
def applyAll:List Rec→eT→eT×Int
 | [],s=>(s,0)
 | r::l,s=>if (aX s r).2≠0 then aX s r else applyAll l (aX s r).1
def Ck (v:eT):Option eT×Int:=
 if (applyAll (aS v) aH).2≠0 then (none,(applyAll (aS v) aH).2)
 else if (applyAll (aS v) aH).1=v then (some v,0) else (none,1)
def eG (v:Int) (s:eT):eT:=⟨s.gen,s.au.map (eU v),s.bL,s.bS.map (nG v)⟩
def eP (s:eT) (f:cz):eT×Int:=if (jy f).2≠0∨(jy f).1.kind=6 then (s,3) else aX s (jy f).1
def rdAll:List cz→eT→eT×Int
 | [],s=>(s,0)
 | f::l,s=>if (eP s f).2≠0 then eP s f else rdAll l (eP s f).1
def nH (L:List Fl):Prop:=L.Pairwise (fun x y=>uE x.t y.t=true)
def pY (L:List (Int×Int)):Prop:=L.Pairwise (fun x y=>x.1 < y.1)
structure gm (s:eT):Prop where
 g0:0≤s.gen
 g1:s.gen≤1000000
 au:fu s.au=true
 addr:∀ b∈s.au,0≤b.addr∧b.addr < 4294967296
 CP:pY s.bL
 Xo:∀ d∈s.bL,(0≤d.1∧d.1≤65535)∧0≤d.2∧d.2≤1099511627776
 Qf:s.bL.length≤16
 CQ:nH s.bS
 fwf:∀ f∈s.bS,GK f.t
 ZF:∀ f∈s.bS,si f
 fw:s.bS.length≤256
theorem gm.zero:gm aH:=⟨by decide,by decide,rfl,by simp [aH],List.Pairwise.nil,by simp [aH],by decide,List.Pairwise.nil,by simp [aH],by simp [aH],by decide⟩
/-! ### Flows by tuple -/
theorem nU {f x:Fl}:∀ {L:List Fl},x∈stPutF f L→x=f∨x∈L
 | [],h=>by simp [stPutF] at h;exact Or.inl h
 | y::r,h=>by
  unfold stPutF at h
  split at h
  ·rcases List.mem_cons.1 h with rfl | h
   ·exact Or.inr (by simp)
   ·rcases nU h with h | h
    ·exact Or.inl h
    ·exact Or.inr (by simp [h])
  split at h
  ·rcases List.mem_cons.1 h with rfl | h
   ·exact Or.inl rfl
   ·exact Or.inr h
  ·rcases List.mem_cons.1 h with rfl | h
   ·exact Or.inl rfl
   ·exact Or.inr (by simp [h])
theorem yK {f:Fl}:∀ {L:List Fl},nH L→(stPutF f L).Perm (f::kG f.t L)
 | [],_=>List.Perm.refl _
 | x::r,h=>by
  obtain⟨h1,h2⟩:=List.pairwise_cons.1 h
  unfold stPutF
  split
  ·rename_i c
   have hx:x.t≠f.t:=fun e=>by rw [e,iw] at c;cases c
   have e:kG f.t (x::r)=x::kG f.t r:=by unfold kG;rw [List.filter_cons_of_pos (by simpa using hx)]
   rw [e]
   exact ((yK h2).cons x).trans (List.Perm.swap f x _)
  split
  ·rename_i c1 c2
   have e:kG f.t (x::r)=x::r:=by
    unfold kG
    rw [List.filter_eq_self]
    intro y hy
    have:uE f.t y.t=true:=by
     rcases List.mem_cons.1 hy with rfl | hy
     ·exact c2
     ·exact mo c2 (h1 y hy)
    simp only [decide_eq_true_eq]
    intro e;rw [e,iw] at this;cases this
   rw [e]
  ·rename_i c1 c2
   have ht:x.t=f.t:=ug (by simpa using c1) (by simpa using c2)
   have e:kG f.t (x::r)=r:=by
    unfold kG
    rw [List.filter_cons_of_neg (by simp [ht]),List.filter_eq_self]
    intro y hy
    have:=h1 y hy
    simp only [decide_eq_true_eq]
    intro e;rw [ht,e,iw] at this;cases this
   rw [e]
theorem Ao {f:Fl}:∀ {L:List Fl},nH L→nH (stPutF f L)
 | [],_=>List.pairwise_singleton _ _
 | x::r,h=>by
  obtain⟨h1,h2⟩:=List.pairwise_cons.1 h
  unfold stPutF
  split
  ·rename_i c
   refine List.pairwise_cons.2 ⟨fun y hy=>?_,Ao h2⟩
   rcases nU hy with rfl | hy
   ·exact c
   ·exact h1 y hy
  split
  ·rename_i c1 c2
   refine List.pairwise_cons.2 ⟨fun y hy=>?_,h⟩
   rcases List.mem_cons.1 hy with rfl | hy
   ·exact c2
   ·exact mo c2 (h1 y hy)
  ·rename_i c1 c2
   have ht:x.t=f.t:=ug (by simpa using c1) (by simpa using c2)
   exact List.pairwise_cons.2 ⟨fun y hy=>by rw [← ht];exact h1 y hy,h2⟩
theorem CR (f:Fl):∀ L:List Fl,(stPutF f L).length≤L.length+1
 | []=>by simp [stPutF]
 | x::r=>by
  have:=CR f r
  unfold stPutF
  split
  ·simp only [List.length_cons];omega
  split <;> simp
theorem qW {t:rX} {L:List Fl}:jX t L=true↔∃ x∈L,x.t=t:=by simp [jX]
theorem CU {f:Fl}:∀ {L:List Fl},nH L→jX f.t L=true→(stPutF f L).length=L.length
 | [],_,h=>by simp [jX] at h
 | x::r,h,hh=>by
  obtain⟨h1,h2⟩:=List.pairwise_cons.1 h
  obtain⟨y,hy,ht⟩:=qW.1 hh
  unfold stPutF
  split
  ·rename_i c
   rcases List.mem_cons.1 hy with rfl | hy
   ·rw [ht,iw] at c;cases c
   ·have:=CU h2 (qW.2 ⟨y,hy,ht⟩)
    simp only [List.length_cons];omega
  split
  ·rename_i c1 c2
   rcases List.mem_cons.1 hy with rfl | hy
   ·rw [ht,iw] at c2;cases c2
   ·have:=mo c2 (h1 y hy)
    rw [ht,iw] at this;cases this
  ·simp
theorem yL {f:Fl}:∀ {L:List Fl},(∀ x∈L,uE x.t f.t=true)→stPutF f L=L++[f]
 | [],_=>rfl
 | x::r,h=>by
  unfold stPutF
  rw [if_pos (h x (by simp)),yL (fun y hy=>h y (by simp [hy]))]
  rfl
theorem nH.filter {L:List Fl} (h:nH L) (p:Fl→Bool):nH (L.filter p):=List.Pairwise.filter p h
/-! ### Drains by number -/
theorem uX {b u:Int} {x:Int×Int}:∀ {L:List (Int×Int)},x∈stPutD b u L→x=(b,u)∨x∈L
 | [],h=>by simp [stPutD] at h;exact Or.inl h
 | y::r,h=>by
  unfold stPutD at h
  split at h
  ·rcases List.mem_cons.1 h with rfl | h
   ·exact Or.inr (by simp)
   ·rcases uX h with h | h
    ·exact Or.inl h
    ·exact Or.inr (by simp [h])
  split at h
  ·rcases List.mem_cons.1 h with rfl | h
   ·exact Or.inl rfl
   ·exact Or.inr h
  ·rcases List.mem_cons.1 h with rfl | h
   ·exact Or.inl rfl
   ·exact Or.inr (by simp [h])
theorem yM {b u:Int}:∀ {L:List (Int×Int)},pY L→(stPutD b u L).Perm ((b,u)::kH b L)
 | [],_=>List.Perm.refl _
 | x::r,h=>by
  obtain⟨h1,h2⟩:=List.pairwise_cons.1 h
  unfold stPutD
  split
  ·rename_i c
   have e:kH b (x::r)=x::kH b r:=by unfold kH;rw [List.filter_cons_of_pos (by simp;omega)]
   rw [e]
   exact ((yM h2).cons x).trans (List.Perm.swap (b,u) x _)
  split
  ·rename_i c1 c2
   have e:kH b (x::r)=x::r:=by
    unfold kH
    rw [List.filter_eq_self]
    intro y hy
    have:b < y.1:=by
     rcases List.mem_cons.1 hy with rfl | hy
     ·exact c2
     ·have:=h1 y hy;omega
    simp;omega
   rw [e]
  ·rename_i c1 c2
   have ht:x.1=b:=by omega
   have e:kH b (x::r)=r:=by
    unfold kH
    rw [List.filter_cons_of_neg (by simp [ht]),List.filter_eq_self]
    intro y hy
    have:=h1 y hy
    simp;omega
   rw [e]
theorem Ap {b u:Int}:∀ {L:List (Int×Int)},pY L→pY (stPutD b u L)
 | [],_=>List.pairwise_singleton _ _
 | x::r,h=>by
  obtain⟨h1,h2⟩:=List.pairwise_cons.1 h
  unfold stPutD
  split
  ·rename_i c
   refine List.pairwise_cons.2 ⟨fun y hy=>?_,Ap h2⟩
   rcases uX hy with rfl | hy
   ·exact c
   ·exact h1 y hy
  split
  ·rename_i c1 c2
   refine List.pairwise_cons.2 ⟨fun y hy=>?_,h⟩
   rcases List.mem_cons.1 hy with rfl | hy
   ·exact c2
   ·have:=h1 y hy;show b < y.1;omega
  ·rename_i c1 c2
   exact List.pairwise_cons.2 ⟨fun y hy=>by have:=h1 y hy;show b < y.1;omega,h2⟩
theorem CV (b u:Int):∀ L:List (Int×Int),(stPutD b u L).length≤L.length+1
 | []=>by simp [stPutD]
 | x::r=>by
  have:=CV b u r
  unfold stPutD
  split
  ·simp only [List.length_cons];omega
  split <;> simp
theorem qX {b:Int} {L:List (Int×Int)}:kI b L=true↔∃ x∈L,x.1=b:=by simp [kI]
theorem CW {b u:Int}:∀ {L:List (Int×Int)},pY L→kI b L=true→(stPutD b u L).length=L.length
 | [],_,h=>by simp [kI] at h
 | x::r,h,hh=>by
  obtain⟨h1,h2⟩:=List.pairwise_cons.1 h
  obtain⟨y,hy,ht⟩:=qX.1 hh
  unfold stPutD
  split
  ·rename_i c
   rcases List.mem_cons.1 hy with rfl | hy
   ·omega
   ·have:=CW (u:=u) h2 (qX.2 ⟨y,hy,ht⟩)
    simp only [List.length_cons];omega
  split
  ·rename_i c1 c2
   rcases List.mem_cons.1 hy with rfl | hy
   ·omega
   ·have:=h1 y hy;omega
  ·simp
theorem yN {b u:Int}:∀ {L:List (Int×Int)},(∀ x∈L,x.1 < b)→stPutD b u L=L++[(b,u)]
 | [],_=>rfl
 | x::r,h=>by
  unfold stPutD
  rw [if_pos (h x (by simp)),yN (fun y hy=>h y (by simp [hy]))]
  rfl
theorem pY.filter {L:List (Int×Int)} (h:pY L) (p:Int×Int→Bool):pY (L.filter p):=List.Pairwise.filter p h
/-! ### A record applied -/
theorem iW {r:Rec}:oM r=false↔bR r=true∧r.kind≠6∧(r.kind=3→fu r.au=true):=by
 unfold oM
 simp only [Bool.or_eq_false_iff,decide_eq_false_iff_not,Bool.and_eq_false_iff,Bool.not_eq_eq_eq_not,Bool.not_false]
 constructor
 ·rintro ⟨h1,h2,h3⟩
  refine⟨h1,h2,fun h=>?_⟩
  rcases h3 with h3 | h3
  ·exact absurd h h3
  ·exact h3
 ·rintro ⟨h1,h2,h3⟩
  refine⟨h1,h2,?_⟩
  by_cases h:r.kind=3
  ·exact Or.inr (h3 h)
  ·exact Or.inl h
theorem qY {s:eT} {r:Rec}:(aX s r).2=0↔oM r=false∧fF s r=false:=by
 unfold aX
 cases oM r <;> cases fF s r <;> simp
theorem Ar {s:eT} {r:Rec} (h:(aX s r).2=0):(aX s r).1=lF s r:=by
 obtain⟨h1,h2⟩:=qY.1 h
 unfold aX;rw [if_neg (by simp [h1]),if_neg (by simp [h2])]
theorem yO {s:eT} {r:Rec} (h:(aX s r).2≠0):(aX s r).1=s:=by
 unfold aX at h ⊢
 cases hb:oM r <;> cases hf:fF s r <;> simp_all
theorem Qg {s:eT} {r:Rec} (hk:r.kind=1) (h:fF s r=false):jX r.fl.t s.bS=true∨s.bS.length < 256:=by
 unfold fF at h;rw [if_pos hk] at h
 simp only [Bool.and_eq_false_iff,Bool.not_eq_false',decide_eq_false_iff_not] at h
 rcases h with h | h
 ·exact Or.inl h
 ·exact Or.inr (by omega)
theorem Qh {s:eT} {r:Rec} (hk:r.kind=4) (h:fF s r=false):kI r.bk s.bL=true∨s.bL.length < 16:=by
 unfold fF at h;rw [if_neg (by omega),if_pos hk] at h
 simp only [Bool.and_eq_false_iff,Bool.not_eq_false',decide_eq_false_iff_not] at h
 rcases h with h | h
 ·exact Or.inl h
 ·exact Or.inr (by omega)
theorem gm.apply {s:eT} (h:gm s) {r:Rec} (wr:nS r):gm (aX s r).1:=by
 by_cases he:(aX s r).2=0
 case neg=>rw [yO he];exact h
 rw [Ar he]
 obtain⟨h1,h2⟩:=qY.1 he
 obtain⟨m1,m2,m3⟩:=iW.1 h1
 rw [dV] at m1
 obtain⟨a1,a2,a3,a4,a5,a6,a7,a8,a9,Uj,Uk⟩:=h
 rcases m1 with ⟨k,m⟩|⟨k,m⟩|⟨k,m,m',m''⟩|⟨k,m,m'⟩|⟨k,m⟩|⟨k,m⟩
 ·have e:lF s r={ s with bS:=stPutF r.fl s.bS }:=by unfold lF;rw [if_pos k]
  rw [e]
  refine⟨a1,a2,a3,a4,a5,a6,a7,Ao a8,fun f hf=>?_,fun f hf=>?_,?_⟩
  ·rcases nU hf with rfl | hf
   ·exact wr.t
   ·exact a9 f hf
  ·rcases nU hf with rfl | hf
   ·exact m
   ·exact Uj f hf
  ·rcases Qg k h2 with hh | hh
   ·show (stPutF r.fl s.bS).length≤256
    rw [CU a8 hh];exact Uk
   ·have:=CR r.fl s.bS
    show (stPutF r.fl s.bS).length≤256
    omega
 ·have e:lF s r={ s with bS:=kG r.fl.t s.bS }:=by unfold lF;rw [if_neg (by omega),if_pos k]
  rw [e]
  exact⟨a1,a2,a3,a4,a5,a6,a7,a8.filter _,fun f hf=>a9 f ((List.mem_filter.1 hf).1),fun f hf=>Uj f ((List.mem_filter.1 hf).1),Nat.le_trans (List.length_filter_le _ _) Uk⟩
 ·have e:lF s r={ s with gen:=r.gen,au:=r.au }:=by unfold lF;rw [if_neg (by omega),if_neg (by omega),if_pos k]
  rw [e]
  exact⟨m.1,m.2,m3 k,wr.addr,a5,a6,a7,a8,a9,Uj,Uk⟩
 ·have e:lF s r={ s with bL:=stPutD r.bk r.till s.bL }:=by unfold lF;rw [if_neg (by omega),if_neg (by omega),if_neg (by omega),if_pos k]
  rw [e]
  refine⟨a1,a2,a3,a4,Ap a5,fun d hd=>?_,?_,a8,a9,Uj,Uk⟩
  ·rcases uX hd with rfl | hd
   ·exact⟨m,m'⟩
   ·exact a6 d hd
  ·rcases Qh k h2 with hh | hh
   ·show (stPutD r.bk r.till s.bL).length≤16
    rw [CW a5 hh];exact a7
   ·have:=CV r.bk r.till s.bL
    show (stPutD r.bk r.till s.bL).length≤16
    omega
 ·have e:lF s r={ s with bL:=kH r.bk s.bL }:=by unfold lF;rw [if_neg (by omega),if_neg (by omega),if_neg (by omega),if_neg (by omega),if_pos k]
  rw [e]
  exact⟨a1,a2,a3,a4,a5.filter _,fun d hd=>a6 d ((List.mem_filter.1 hd).1),Nat.le_trans (List.length_filter_le _ _) a7,a8,a9,Uj,Uk⟩
 ·omega
/-! ### A state made anew -/
theorem lG:∀ (a b:List Rec) (s:eT),applyAll (a++b) s=if (applyAll a s).2≠0 then applyAll a s else applyAll b (applyAll a s).1
 | [],b,s=>by simp [applyAll]
 | r::a,b,s=>by
  by_cases h:(aX s r).2≠0
  ·have e1:applyAll (r::(a++b)) s=aX s r:=if_pos h
   have e2:applyAll (r::a) s=aX s r:=if_pos h
   rw [List.cons_append,e1,e2,if_pos h]
  ·have e1:applyAll (r::(a++b)) s=applyAll (a++b) (aX s r).1:=if_neg h
   have e2:applyAll (r::a) s=applyAll a (aX s r).1:=if_neg h
   rw [List.cons_append,e1,e2,lG a b]
theorem Qi {v:Int} {l:List Bk} (h:l.all gy=true):(l.map (eU v)).all gy=true:=by
 simp only [List.all_eq_true,List.mem_map] at h ⊢
 rintro _ ⟨b,hb,rfl⟩
 exact GY (h b hb)
theorem zF (v:Int) (b:Bk):(eU v b).id=b.id∧(eU v b).addr=b.addr:=by unfold eU;split <;> simp
theorem Mm (v:Int):∀ l:List Bk,upId (l.map (eU v))=upId l
 | []=>rfl
 | [a]=>rfl
 | a::b::r=>by
  have ih:=Mm v (b::r)
  simp only [List.map_cons] at ih ⊢
  simp only [upId,(zF v _).1,ih]
theorem qZ {v:Int} {l:List Bk} (h:fu l=true):fu (l.map (eU v))=true:=by
 simp only [fu,Bool.and_eq_true] at h ⊢
 exact⟨by simpa using h.1,Qi h.2.1,by rw [Mm];exact h.2.2⟩
theorem mV {l:List Bk} (h:fu l=true):l.length≤16∧∀ b∈l,gy b=true:=by
 simp only [fu,Bool.and_eq_true,decide_eq_true_eq,List.all_eq_true] at h
 exact⟨h.1,h.2.1⟩
theorem NB {s:eT} {g:Int} {l:List Bk} (h0:0≤g) (h1:g≤1000000) (h2:fu l=true) (r:Rec) (hk:r.kind=3) (hg:r.gen=g) (hb:r.au=l):aX s r=({ s with gen:=g,au:=l },0):=by
 subst hg hb
 obtain⟨l1,l2⟩:=mV h2
 have hb:oM r=false:=iW.2 ⟨dV.2 (Or.inr (Or.inr (Or.inl ⟨hk,⟨h0,h1⟩,l1,l2⟩))),by omega,fun _=>h2⟩
 have hf:fF s r=false:=by unfold fF;rw [if_neg (by omega),if_neg (by omega)]
 unfold aX;rw [if_neg (by simp [hb]),if_neg (by simp [hf])]
 unfold lF;rw [if_neg (by omega),if_neg (by omega),if_pos hk]
theorem Qj {s:eT} {b u:Int} (h0:0≤b∧b≤65535) (h1:0≤u∧u≤1099511627776) (hn:kI b s.bL=true∨s.bL.length < 16) (r:Rec) (hk:r.kind=4) (hb:r.bk=b) (hu:r.till=u):aX s r=({ s with bL:=stPutD b u s.bL },0):=by
 subst hb hu
 have hbad:oM r=false:=iW.2 ⟨dV.2 (Or.inr (Or.inr (Or.inr (Or.inl ⟨hk,h0,h1⟩)))),by omega,fun h=>by omega⟩
 have hf:fF s r=false:=by
  unfold fF;rw [if_neg (by omega),if_pos hk]
  rcases hn with hn | hn
  ·simp [hn]
  ·have:decide (16≤s.bL.length)=false:=decide_eq_false (by omega)
   rw [this];simp
 unfold aX;rw [if_neg (by simp [hbad]),if_neg (by simp [hf])]
 unfold lF;rw [if_neg (by omega),if_neg (by omega),if_neg (by omega),if_pos hk]
theorem Qk {s:eT} {f:Fl} (h:si f) (hn:jX f.t s.bS=true∨s.bS.length < 256) (r:Rec) (hk:r.kind=1) (hf:r.fl=f):aX s r=({ s with bS:=stPutF f s.bS },0):=by
 subst hf
 have hbad:oM r=false:=iW.2 ⟨dV.2 (Or.inl ⟨hk,h⟩),by omega,fun h=>by omega⟩
 have hf:fF s r=false:=by
  unfold fF;rw [if_pos hk]
  rcases hn with hn | hn
  ·simp [hn]
  ·have:decide (256≤s.bS.length)=false:=decide_eq_false (by omega)
   rw [this];simp
 unfold aX;rw [if_neg (by simp [hbad]),if_neg (by simp [hf])]
 unfold lF;rw [if_pos hk]
theorem Ql {g:Rec→Rec} (hg:∀ d,(g (iV d)).kind=4∧(g (iV d)).bk=d.1∧(g (iV d)).till=d.2):∀ (L:List (Int×Int)) (s:eT),pY (s.bL++L)→(∀ d∈L,(0≤d.1∧d.1≤65535)∧0≤d.2∧d.2≤1099511627776)→s.bL.length+L.length≤16 →
  applyAll ((L.map iV).map g) s=({ s with bL:=s.bL++L },0)
 | [],s,_,_,_=>by simp [applyAll]
 | d::L,s,hs,hm,hl=>by
  obtain⟨g1,g2,g3⟩:=hg d
  obtain⟨m1,m2⟩:=hm d (by simp)
  have hlt:∀ x∈s.bL,x.1 < d.1:=fun x hx=>(List.pairwise_append.1 hs).2.2 x hx d (by simp)
  simp only [List.length_cons] at hl
  have e:=Qj (s:=s) m1 m2 (Or.inr (by omega)) (g (iV d)) g1 g2 g3
  simp only [List.map_cons,applyAll]
  rw [e,if_neg (by simp)]
  have hp:stPutD d.1 d.2 s.bL=s.bL++[d]:=yN hlt
  have ih:=Ql hg L { s with bL:=stPutD d.1 d.2 s.bL } (by show pY (stPutD d.1 d.2 s.bL++L);rw [hp,List.append_assoc];exact hs) (fun x hx=>hm x (by simp [hx])) (by show (stPutD d.1 d.2 s.bL).length+L.length≤16;rw [hp];simp;omega)
  rw [ih]
  show (({ s with bL:=stPutD d.1 d.2 s.bL++L }:eT),(0:Int))=_
  rw [hp,List.append_assoc];rfl
theorem Qm {g:Rec→Rec} {p:Fl→Fl} (hg:∀ f,(g (kT f)).kind=1∧(g (kT f)).fl=p f) (hp:∀ f,(p f).t=f.t) (hpm:∀ f,si f→si (p f)):∀ (L:List Fl) (s:eT),nH (s.bS++L)→(∀ f∈L,si f)→s.bS.length+L.length≤256 →
  applyAll ((L.map kT).map g) s=({ s with bS:=s.bS++L.map p },0)
 | [],s,_,_,_=>by simp [applyAll]
 | f::L,s,hs,hm,hl=>by
  obtain⟨g1,g2⟩:=hg f
  have hlt:∀ x∈s.bS,uE x.t (p f).t=true:=fun x hx=>by rw [hp];exact (List.pairwise_append.1 hs).2.2 x hx f (by simp)
  simp only [List.length_cons] at hl
  have e:=Qk (s:=s) (hpm f (hm f (by simp))) (Or.inr (by omega)) (g (kT f)) g1 g2
  simp only [List.map_cons,applyAll]
  rw [e,if_neg (by simp)]
  have hq:stPutF (p f) s.bS=s.bS++[p f]:=yL hlt
  have ih:=Qm hg hp hpm L { s with bS:=stPutF (p f) s.bS } (by
   show nH (stPutF (p f) s.bS++L)
   rw [hq]
   unfold nH at hs ⊢
   rw [List.append_assoc,List.pairwise_append] at *
   refine⟨hs.1,?_,fun a ha b hb=>?_⟩
   ·rw [List.singleton_append,List.pairwise_cons] 
    have h2:=List.pairwise_cons.1 hs.2.1
    exact⟨fun b hb=>by rw [hp];exact h2.1 b hb,h2.2⟩
   ·rcases List.mem_append.1 hb with hb | hb
    ·simp at hb;subst hb;rw [hp];exact hs.2.2 a ha f (by simp)
    ·exact hs.2.2 a ha b (by simp [hb])) (fun x hx=>hm x (by simp [hx])) (by show (stPutF (p f) s.bS).length+L.length≤256;rw [hq];simp;omega)
  rw [ih]
  show (({ s with bS:=stPutF (p f) s.bS++L.map p }:eT),(0:Int))=_
  rw [hq,List.append_assoc];rfl
theorem He {s:eT} (h:gm s) {g:Rec→Rec} {p:Fl→Fl} {q:List Bk→List Bk} (hg1:(g (jY s)).kind=3∧(g (jY s)).gen=s.gen∧(g (jY s)).au=q s.au) (hq:fu (q s.au)=true)
  (hg2:∀ d,(g (iV d)).kind=4∧(g (iV d)).bk=d.1∧(g (iV d)).till=d.2) (hg3:∀ f,(g (kT f)).kind=1∧(g (kT f)).fl=p f) (hp:∀ f,(p f).t=f.t) (hpm:∀ f,si f→si (p f)) :
  applyAll ((aS s).map g) aH=(⟨s.gen,q s.au,s.bL,s.bS.map p⟩,0):=by
 have e1:=NB (s:=aH) h.g0 h.g1 hq (g (jY s)) hg1.1 hg1.2.1 hg1.2.2
 unfold aS
 rw [List.map_cons,List.map_append]
 simp only [applyAll]
 rw [e1,if_neg (by simp),lG]
 have e2:=Ql hg2 s.bL { aH with gen:=s.gen,au:=q s.au } (by simpa [aH] using h.CP) h.Xo (by simpa [aH] using h.Qf)
 rw [e2,if_neg (by simp)]
 have e3:=Qm hg3 hp hpm s.bS { aH with gen:=s.gen,au:=q s.au,bL:=([]:List (Int×Int))++s.bL } (by simpa [aH] using h.CQ) h.ZF (by simpa [aH] using h.fw)
 rw [show (aH.bL:List (Int×Int))=[] from rfl]
 simp only
 rw [e3]
 simp [aH]
theorem Ul {s:eT} (h:gm s):Ck s=(some s,0):=by
 have e:=He h (g:=id) (p:=id) (q:=id) ⟨rfl,rfl,rfl⟩ h.au (fun d=>⟨rfl,rfl,rfl⟩) (fun f=>⟨rfl,rfl⟩) (fun f=>rfl) (fun f hf=>hf)
 simp only [List.map_id,id] at e
 have e':applyAll (aS s) aH=(s,0):=e
 unfold Ck
 rw [e'];simp
theorem NC {v:Int} (hv:di v=true) (s:eT):dB (jY s) v=⟨3,aQ,s.gen,s.au.map (eU v),0,0,0⟩:=by
 unfold dB;rw [if_neg (by simp [hv])];simp [aN,jY]
theorem Qn {v:Int} (hv:di v=true) (d:Int×Int):dB (iV d) v=iV d:=by
 unfold dB;rw [if_neg (by simp [hv])];simp [aN,iV]
theorem Qo {v:Int} (hv:di v=true) (f:Fl):dB (kT f) v=kT (nG v f):=by
 unfold dB;rw [if_neg (by simp [hv])];simp [aN,kT]
theorem Mo {s:eT} (h:gm s) {v:Int} (hv:di v=true):applyAll ((aS s).map (fun r=>dB r v)) aH=(eG v s,0):=
 He h (p:=nG v) (q:=fun l=>l.map (eU v)) (by rw [NC hv];exact⟨rfl,rfl,rfl⟩) (qZ h.au) (fun d=>by rw [Qn hv];exact⟨rfl,rfl,rfl⟩) (fun f=>by rw [Qo hv];exact⟨rfl,rfl⟩) (fun f=>rfl) (fun f hf=>Ah hf)
theorem nS.recs {s:eT} (h:gm s):∀ r∈aS s,nS r∧bR r=true∧r.kind≠6:=by
 intro r hr
 have z:GK eO:=⟨by decide,by decide,by decide,by decide,by decide,by decide,by decide,by decide,by decide,by decide⟩
 simp only [aS,List.mem_cons,List.mem_append,List.mem_map] at hr
 rcases hr with rfl | ⟨d,hd,rfl⟩|⟨f,hf,rfl⟩
 ·obtain⟨l1,l2⟩:=mV h.au
  exact⟨⟨z,h.addr⟩,dV.2 (Or.inr (Or.inr (Or.inl ⟨rfl,⟨h.g0,h.g1⟩,l1,l2⟩))),by simp [jY]⟩
 ·exact⟨⟨z,by simp [iV]⟩,dV.2 (Or.inr (Or.inr (Or.inr (Or.inl ⟨rfl,h.Xo d hd⟩)))),by simp [iV]⟩
 ·exact⟨⟨h.fwf f hf,by simp [kT]⟩,dV.2 (Or.inl ⟨rfl,h.ZF f hf⟩),by simp [kT]⟩
theorem gm.eG {s:eT} (h:gm s) (v:Int):gm (eG v s):=by
 obtain⟨a1,a2,a3,a4,a5,a6,a7,a8,a9,Uj,Uk⟩:=h
 refine⟨a1,a2,qZ a3,fun b hb=>?_,a5,a6,a7,?_,fun f hf=>?_,fun f hf=>?_,by simpa [Go.Proofs.YtanhdliaaccacaaGreat.eG] using Uk⟩
 ·obtain⟨x,hx,rfl⟩:=List.mem_map.1 hb
  rw [(zF v x).2];exact a4 x hx
 ·show nH (s.bS.map (nG v))
  unfold nH;rw [List.pairwise_map];exact a8
 ·obtain⟨x,hx,rfl⟩:=List.mem_map.1 hf;exact a9 x hx
 ·obtain⟨x,hx,rfl⟩:=List.mem_map.1 hf;exact Ah (Uj x hx)
theorem rq {s:eT} (h:gm s):(aS s).length≤273:=by
 have h1:=h.Qf;have h2:=h.fw
 simp [aS];omega
/-! ### A log read -/
theorem CX:∀ (a b:List cz) (s:eT),rdAll (a++b) s=if (rdAll a s).2≠0 then rdAll a s else rdAll b (rdAll a s).1
 | [],b,s=>by simp [rdAll]
 | r::a,b,s=>by
  by_cases h:(eP s r).2≠0
  ·have e1:rdAll (r::(a++b)) s=eP s r:=if_pos h
   have e2:rdAll (r::a) s=eP s r:=if_pos h
   rw [List.cons_append,e1,e2,if_pos h]
  ·have e1:rdAll (r::(a++b)) s=rdAll (a++b) (eP s r).1:=if_neg h
   have e2:rdAll (r::a) s=rdAll a (eP s r).1:=if_neg h
   rw [List.cons_append,e1,e2,CX a b]
theorem Hf {s:eT} {r:Rec} {v:Int} (hv:di v=true) (h:(aX s r).2=0):(aX s (dB r v)).2=0:=by
 obtain⟨h1,h2⟩:=qY.1 h
 obtain⟨m1,m2,m3⟩:=iW.1 h1
 have hk:=qR (r:=r) hv
 have e:dB r v=⟨(aN r).kind,if r.kind=1 then nG v (aN r).fl else (aN r).fl,(aN r).gen,(aN r).au.map (eU v),(aN r).bk,(aN r).till,(aN r).count⟩:=if_neg (by simp [hv])
 refine qY.2 ⟨iW.2 ⟨CG hv m1,by rw [hk];exact m2,fun hk3=>?_⟩,?_⟩
 ·rw [hk] at hk3
  rw [e];simp [aN,hk3];exact qZ (m3 hk3)
 ·unfold fF at h2 ⊢
  rw [hk]
  by_cases k1:r.kind=1
  ·rw [if_pos k1] at h2 ⊢
   rw [e];simp only [if_pos k1,aN];exact h2
  ·rw [if_neg k1] at h2 ⊢
   by_cases k4:r.kind=4
   ·rw [if_pos k4] at h2 ⊢
    rw [e];simp [aN,k4];simpa using h2
   ·rw [if_neg k4]
theorem Hg {s:eT} {r:Rec} {v:Int} (wr:nS r) (hv:di v=true) (hm:bR r=true) (h6:r.kind≠6):eP s (dI r v).1=aX s (dB r v):=by
 obtain⟨_,e⟩:=qU wr hv hm
 unfold eP
 rw [e]
 have:¬ ((0:Int)≠0∨(dB r v).kind=6):=by rw [qR hv];simp [h6]
 rw [if_neg this]
theorem Au {v:Int} (hv:di v=true):∀ (l:List Rec) (s:eT),(∀ r∈l,nS r∧bR r=true∧r.kind≠6)→rdAll (l.map (fun r=>(dI r v).1)) s=applyAll (l.map (fun r=>dB r v)) s
 | [],s,_=>rfl
 | r::l,s,h=>by
  obtain⟨h1,h2,h3⟩:=h r (by simp)
  simp only [List.map_cons,rdAll,applyAll,Hg h1 hv h2 h3]
  rw [Au hv l _ (fun x hx=>h x (by simp [hx]))]
theorem uY {s:eT} (h:gm s) {v:Int} (hv:di v=true):rdAll ((aS s).map (fun r=>(dI r v).1)) aH=(eG v s,0):=by
 rw [Au hv _ _ (nS.recs h),Mo h hv]
def Xp (bs:List UInt8) (c k:Value):Prop:=∃ i:Nat,i≤bs.length∧k=.int .i64 i∧c=.int .u32 (jR 0xffffffff (bs.take i))
def Xq (c0:Nat) (c k:Value):Prop:=∃ j:Nat,j≤8∧k=.int .i64 j∧c=.int .u32 (crcBits j c0)
theorem rC (a b:Nat) (ha:a < 4294967296) (hb:b < 4294967296):bits .xor .u32 (a:Int) (b:Int)=((a ^^^ b:Nat):Int):=by
 have hx:a ^^^ b < 2 ^ 32:=Nat.xor_lt_two_pow (by omega) (by omega)
 have h1:(BitVec.ofInt 32 (a:Int)).toNat=a:=by
  rw [BitVec.ofInt_natCast,BitVec.toNat_ofNat];exact Nat.mod_eq_of_lt (by omega)
 have h2:(BitVec.ofInt 32 (b:Int)).toNat=b:=by
  rw [BitVec.ofInt_natCast,BitVec.toNat_ofNat];exact Nat.mod_eq_of_lt (by omega)
 show IntKind.u32.wrap ((BitVec.ofInt 32 (a:Int) ^^^ BitVec.ofInt 32 (b:Int)).toNat:Int)=_
 rw [BitVec.toNat_xor,h1,h2]
 rw [show ∀ n,IntKind.u32.wrap n=n % 4294967296 from fun n=>by simp [IntKind.wrap,IntKind.bits,IntKind.signed]]
 omega
theorem Eo (a b:Nat) (ha:a < 4294967296) (hb:b < 4294967296):bits .and .u32 (a:Int) (b:Int)=((a &&& b:Nat):Int):=by
 have hx:a &&& b < 2 ^ 32:=Nat.and_lt_two_pow _ (by omega)
 have h1:(BitVec.ofInt 32 (a:Int)).toNat=a:=by
  rw [BitVec.ofInt_natCast,BitVec.toNat_ofNat];exact Nat.mod_eq_of_lt (by omega)
 have h2:(BitVec.ofInt 32 (b:Int)).toNat=b:=by
  rw [BitVec.ofInt_natCast,BitVec.toNat_ofNat];exact Nat.mod_eq_of_lt (by omega)
 show IntKind.u32.wrap ((BitVec.ofInt 32 (a:Int) &&& BitVec.ofInt 32 (b:Int)).toNat:Int)=_
 rw [BitVec.toNat_and,h1,h2]
 rw [show ∀ n,IntKind.u32.wrap n=n % 4294967296 from fun n=>by simp [IntKind.wrap,IntKind.bits,IntKind.signed]]
 omega
theorem and_one {c:Nat} (hc:c < 4294967296):bits .and .u32 (c:Int) 1=((c % 2:Nat):Int):=by
 have:=Eo c 1 hc (by omega)
 rw [Nat.and_one_is_mod] at this
 exact this
theorem Qp {c:Nat} (hc:c < 4294967296):bits .xor .u32 ((c:Int) / 2) 2197175160=((c / 2 ^^^ 0x82f63b78:Nat):Int):=by
 have:=rC (c / 2) 0x82f63b78 (by omega) (by omega)
 rwa [show (((c / 2:Nat):Nat):Int)=(c:Int) / 2 by omega] at this
theorem wB {w:World} {A:Option Addr} {bs:List UInt8} {c:Nat} (h:Src w A bs.length 1 (eB bs)) (hl:bs.length≤100000000) :
  Calls Tryz.prog 205 #[.slice A bs.length c] w fun e w'=>e=.returned (.int .u32 (crc bs))∧w'=w:=by
 have H:=Lib.hid h
 clear h
 go_enter Tryz.func205,Tryz.ntmps205
 go_wp2_with fail
 go_loop [3,9] (Xp bs) (fun _ k=>bs.length - (intOf k).toNat)
 case atStart=>exact⟨0,Nat.zero_le _,rfl,rfl⟩
 case round=>
  obtain⟨i,hi,rfl,rfl⟩:=hrel
  have hc32:=qO (bs.take i) (c:=0xffffffff) (by omega)
  by_cases hlt:i < bs.length
  ·obtain⟨x,hx⟩:∃ x,bs[i]?=some x:=⟨bs[i],List.getElem?_eq_getElem hlt⟩
   obtain⟨ad,rfl,hc⟩:=H.out.at' (by omega)
   have c0:=hc i (.int .u8 x.toNat) (by simp [eB,hx])
   have hlt':(i:Int) < (bs.length:Int):=by omega
   have HX:Hid (jR 0xffffffff (bs.take (i+1))=crcBits 8 (jR 0xffffffff (bs.take i) ^^^ x.toNat)):=Lib.hid (by
    rw [List.take_add_one,hx];exact Ej _ _ _)
   have hq:=rC _ x.toNat hc32 (by have:=x.toNat_lt;omega)
   have hb:jR 0xffffffff (bs.take i) ^^^ x.toNat < 4294967296:=vZ hc32 (by have:=x.toNat_lt;omega)
   have hxl:=x.toNat_lt
   clear hx hc
   generalize jR 0xffffffff (bs.take i)=c0' at *
   generalize (x.toNat)=xn at *
   go_wp2_with fail
   go_loop [3,17] (Xq (c0' ^^^ xn)) (fun _ k=>8 - (intOf k).toNat)
   case atStart=>exact⟨0,by omega,rfl,by simp [crcBits]⟩
   case round=>
    obtain⟨j,hj,rfl,rfl⟩:=hrel
    have hcb:=uR j hb
    have HS:=Lib.hid (wm j (c0' ^^^ xn))
    clear hq
    by_cases hjl:j < 8
    ·have q1:=and_one hcb
     have q2:=Qp hcb
     generalize crcBits j (c0' ^^^ xn)=cj at *
     have abC:(j:Int) < 8:=by omega
     by_cases h2:cj % 2=1
     ·have HB:Hid (qN cj=(cj / 2) ^^^ 0x82f63b78):=Lib.hid (by rw [qN,if_pos h2])
      have q3:(((cj % 2:Nat):Int) == 1)=true:=by rw [h2];rfl
      clear h2
      go_wp2_with fail
      go_round
      case rel=>exact⟨j+1,by omega,by go_num,by rw [HS.out,HB.out]⟩
      case measure=>simp [intOf];omega
     ·have HB:Hid (qN cj=cj / 2):=Lib.hid (by rw [qN,if_neg h2])
      have q3:(((cj % 2:Nat):Int) == 1)=false:=by rw [beq_eq_false_iff_ne];omega
      clear h2
      go_wp2_with fail
      go_round
      case rel=>exact⟨j+1,by omega,by go_num,by rw [HS.out,HB.out];simp⟩
      case measure=>simp [intOf];omega
    ·obtain rfl:j=8:=by omega
     go_wp2_with fail
     go_round
     case rel=>exact⟨i+1,by omega,by go_num,by rw [HX.out]⟩
     case measure=>simp [intOf];omega
  ·have hil:i=bs.length:=by omega
   subst hil
   have hq:=rC 4294967295 (jR 0xffffffff (bs.take bs.length)) (by omega) hc32
   have HE:Hid (crc bs=jR 0xffffffff (bs.take bs.length) ^^^ 4294967295):=Lib.hid (by rw [List.take_length];rfl)
   have hb:=qO (bs.take bs.length) (c:=0xffffffff) (by omega)
   generalize jR 0xffffffff (bs.take bs.length)=cc at *
   go_wp2_with fail
   go_ret
   refine⟨?_,rfl⟩
   rw [HE.out]
   show Ending.returned (.int .u32 (bits .xor .u32 IntKind.u32.max (cc:Int)))=_
   rw [show IntKind.u32.max=((4294967295:Nat):Int) by rfl,hq,Nat.xor_comm]
end Go.Proofs.YtanhdliaaccacaaGreat
