/- Rows.CompactBoundsSaid -/
import Derived.Test.YtaopfagclnocdaaGreatCU4
import Derived.Test.YtaopfagclnocdaaGreatCU10
import Derived.Test.YtaopfagclnocdaaGreatCU8
namespace Go.Proofs.YtaopfagclnocdaaGreat
open Go.RowKit
open Go.Maps (Keyed)
set_option linter.unusedVariables false
set_option maxHeartbeats 64000000
set_option maxRecDepth 100000
structure StD where
 gen:Int
 bks:List Bk
 drs:List (Int×Int)
 fls:List Fl
deriving DecidableEq,Inhabited
def zeroSt:StD:=⟨0,[],[],[]⟩
def upId:List Bk→Bool
 | a::b::r=>decide (a.id < b.id) && upId (b::r)
 | _=>true
def gensMay (l:List Bk):Bool:=decide (l.length≤16) && (l.all mayBk && upId l)
def stPutF (f:Fl):List Fl→List Fl
 | []=>[f]
 | x::r=>if ltT x.t f.t=true then x::stPutF f r else if ltT f.t x.t=true then f::x::r else f::r
def stDelF (t:Tup) (L:List Fl):List Fl:=L.filter (fun x=>decide (x.t≠t))
def stHasF (t:Tup) (L:List Fl):Bool:=L.any (fun x=>decide (x.t=t))
def stPutD (b u:Int):List (Int×Int)→List (Int×Int)
 | []=>[(b,u)]
 | x::r=>if x.1 < b then x::stPutD b u r else if b < x.1 then (b,u)::x::r else (b,u)::r
def stDelD (b:Int) (L:List (Int×Int)):List (Int×Int):=L.filter (fun x=>decide (x.1≠b))
def stHasD (b:Int) (L:List (Int×Int)):Bool:=L.any (fun x=>decide (x.1=b))
def fullSt (s:StD) (r:Rec):Bool:=
 if r.kind=1 then !stHasF r.fl.t s.fls && decide (256≤s.fls.length)
 else if r.kind=4 then !stHasD r.bk s.drs && decide (16≤s.drs.length)
 else false
def badSt (r:Rec):Bool:=!mayRec r || (decide (r.kind=6) || (decide (r.kind=3) && !gensMay r.bks))
def doSt (s:StD) (r:Rec):StD:=
 if r.kind=1 then { s with fls:=stPutF r.fl s.fls }
 else if r.kind=2 then { s with fls:=stDelF r.fl.t s.fls }
 else if r.kind=3 then { s with gen:=r.gen,bks:=r.bks }
 else if r.kind=4 then { s with drs:=stPutD r.bk r.till s.drs }
 else if r.kind=5 then { s with drs:=stDelD r.bk s.drs }
 else s
def applySt (s:StD) (r:Rec):StD×Int:=
 if badSt r=true then (s,1) else if fullSt s r=true then (s,9) else (doSt s r,0)
def recGen (s:StD):Rec:=⟨3,zeroF,s.gen,s.bks,0,0,0⟩
def recDr (d:Int×Int):Rec:=⟨4,zeroF,0,[],d.1,d.2,0⟩
def recFl (f:Fl):Rec:=⟨1,f,0,[],0,0,0⟩
def recsSt (s:StD):List Rec:=recGen s::(s.drs.map recDr++s.fls.map recFl)
def applyAll:List Rec→StD→StD×Int
 | [],s=>(s,0)
 | r::l,s=>if (applySt s r).2≠0 then applySt s r else applyAll l (applySt s r).1
def ofSt (v:StD):Option StD×Int:=
 if (applyAll (recsSt v) zeroSt).2≠0 then (none,(applyAll (recsSt v) zeroSt).2)
 else if (applyAll (recsSt v) zeroSt).1=v then (some v,0) else (none,1)
def inSt (v:Int) (s:StD):StD:=⟨s.gen,s.bks.map (inBk v),s.drs,s.fls.map (inFl v)⟩
def rdFr (s:StD) (f:FrD):StD×Int:=if (decRec f).2≠0∨(decRec f).1.kind=6 then (s,3) else applySt s (decRec f).1
def rdAll:List FrD→StD→StD×Int
 | [],s=>(s,0)
 | f::l,s=>if (rdFr s f).2≠0 then rdFr s f else rdAll l (rdFr s f).1
def SrtF (L:List Fl):Prop:=L.Pairwise (fun x y=>ltT x.t y.t=true)
def SrtD (L:List (Int×Int)):Prop:=L.Pairwise (fun x y=>x.1 < y.1)
structure OkSt (s:StD):Prop where
 g0:0≤s.gen
 g1:s.gen≤1000000
 bks:gensMay s.bks=true
 addr:∀ b∈s.bks,0≤b.addr∧b.addr < 4294967296
 dsort:SrtD s.drs
 dmay:∀ d∈s.drs,(0≤d.1∧d.1≤65535)∧0≤d.2∧d.2≤1099511627776
 dlen:s.drs.length≤16
 fsort:SrtF s.fls
 fwf:∀ f∈s.fls,WfT f.t
 fmay:∀ f∈s.fls,MayF f
 flen:s.fls.length≤256
theorem OkSt.zero:OkSt zeroSt:=⟨by decide,by decide,rfl,by simp [zeroSt],List.Pairwise.nil,by simp [zeroSt],by decide,List.Pairwise.nil,by simp [zeroSt],by simp [zeroSt],by decide⟩
/-! ### Flows by tuple -/
theorem stPutF_mem {f x:Fl}:∀ {L:List Fl},x∈stPutF f L→x=f∨x∈L
 | [],h=>by simp [stPutF] at h;exact Or.inl h
 | y::r,h=>by
  unfold stPutF at h
  split at h
  ·rcases List.mem_cons.1 h with rfl | h
   ·exact Or.inr (by simp)
   ·rcases stPutF_mem h with h | h
    ·exact Or.inl h
    ·exact Or.inr (by simp [h])
  split at h
  ·rcases List.mem_cons.1 h with rfl | h
   ·exact Or.inl rfl
   ·exact Or.inr h
  ·rcases List.mem_cons.1 h with rfl | h
   ·exact Or.inl rfl
   ·exact Or.inr (by simp [h])
theorem stPutF_perm {f:Fl}:∀ {L:List Fl},SrtF L→(stPutF f L).Perm (f::stDelF f.t L)
 | [],_=>List.Perm.refl _
 | x::r,h=>by
  obtain⟨h1,h2⟩:=List.pairwise_cons.1 h
  unfold stPutF
  split
  ·rename_i c
   have hx:x.t≠f.t:=fun e=>by rw [e,ltT_irrefl] at c;cases c
   have e:stDelF f.t (x::r)=x::stDelF f.t r:=by unfold stDelF;rw [List.filter_cons_of_pos (by simpa using hx)]
   rw [e]
   exact ((stPutF_perm h2).cons x).trans (List.Perm.swap f x _)
  split
  ·rename_i c1 c2
   have e:stDelF f.t (x::r)=x::r:=by
    unfold stDelF
    rw [List.filter_eq_self]
    intro y hy
    have:ltT f.t y.t=true:=by
     rcases List.mem_cons.1 hy with rfl | hy
     ·exact c2
     ·exact ltT_trans c2 (h1 y hy)
    simp only [decide_eq_true_eq]
    intro e;rw [e,ltT_irrefl] at this;cases this
   rw [e]
  ·rename_i c1 c2
   have ht:x.t=f.t:=ltT_total (by simpa using c1) (by simpa using c2)
   have e:stDelF f.t (x::r)=r:=by
    unfold stDelF
    rw [List.filter_cons_of_neg (by simp [ht]),List.filter_eq_self]
    intro y hy
    have:=h1 y hy
    simp only [decide_eq_true_eq]
    intro e;rw [ht,e,ltT_irrefl] at this;cases this
   rw [e]
theorem stPutF_srt {f:Fl}:∀ {L:List Fl},SrtF L→SrtF (stPutF f L)
 | [],_=>List.pairwise_singleton _ _
 | x::r,h=>by
  obtain⟨h1,h2⟩:=List.pairwise_cons.1 h
  unfold stPutF
  split
  ·rename_i c
   refine List.pairwise_cons.2 ⟨fun y hy=>?_,stPutF_srt h2⟩
   rcases stPutF_mem hy with rfl | hy
   ·exact c
   ·exact h1 y hy
  split
  ·rename_i c1 c2
   refine List.pairwise_cons.2 ⟨fun y hy=>?_,h⟩
   rcases List.mem_cons.1 hy with rfl | hy
   ·exact c2
   ·exact ltT_trans c2 (h1 y hy)
  ·rename_i c1 c2
   have ht:x.t=f.t:=ltT_total (by simpa using c1) (by simpa using c2)
   exact List.pairwise_cons.2 ⟨fun y hy=>by rw [← ht];exact h1 y hy,h2⟩
theorem stPutF_le (f:Fl):∀ L:List Fl,(stPutF f L).length≤L.length+1
 | []=>by simp [stPutF]
 | x::r=>by
  have:=stPutF_le f r
  unfold stPutF
  split
  ·simp only [List.length_cons];omega
  split <;> simp
theorem stHasF_iff {t:Tup} {L:List Fl}:stHasF t L=true↔∃ x∈L,x.t=t:=by simp [stHasF]
theorem stPutF_eq {f:Fl}:∀ {L:List Fl},SrtF L→stHasF f.t L=true→(stPutF f L).length=L.length
 | [],_,h=>by simp [stHasF] at h
 | x::r,h,hh=>by
  obtain⟨h1,h2⟩:=List.pairwise_cons.1 h
  obtain⟨y,hy,ht⟩:=stHasF_iff.1 hh
  unfold stPutF
  split
  ·rename_i c
   rcases List.mem_cons.1 hy with rfl | hy
   ·rw [ht,ltT_irrefl] at c;cases c
   ·have:=stPutF_eq h2 (stHasF_iff.2 ⟨y,hy,ht⟩)
    simp only [List.length_cons];omega
  split
  ·rename_i c1 c2
   rcases List.mem_cons.1 hy with rfl | hy
   ·rw [ht,ltT_irrefl] at c2;cases c2
   ·have:=ltT_trans c2 (h1 y hy)
    rw [ht,ltT_irrefl] at this;cases this
  ·simp
theorem stPutF_last {f:Fl}:∀ {L:List Fl},(∀ x∈L,ltT x.t f.t=true)→stPutF f L=L++[f]
 | [],_=>rfl
 | x::r,h=>by
  unfold stPutF
  rw [if_pos (h x (by simp)),stPutF_last (fun y hy=>h y (by simp [hy]))]
  rfl
theorem SrtF.filter {L:List Fl} (h:SrtF L) (p:Fl→Bool):SrtF (L.filter p):=List.Pairwise.filter p h
/-! ### Drains by number -/
theorem stPutD_mem {b u:Int} {x:Int×Int}:∀ {L:List (Int×Int)},x∈stPutD b u L→x=(b,u)∨x∈L
 | [],h=>by simp [stPutD] at h;exact Or.inl h
 | y::r,h=>by
  unfold stPutD at h
  split at h
  ·rcases List.mem_cons.1 h with rfl | h
   ·exact Or.inr (by simp)
   ·rcases stPutD_mem h with h | h
    ·exact Or.inl h
    ·exact Or.inr (by simp [h])
  split at h
  ·rcases List.mem_cons.1 h with rfl | h
   ·exact Or.inl rfl
   ·exact Or.inr h
  ·rcases List.mem_cons.1 h with rfl | h
   ·exact Or.inl rfl
   ·exact Or.inr (by simp [h])
theorem stPutD_perm {b u:Int}:∀ {L:List (Int×Int)},SrtD L→(stPutD b u L).Perm ((b,u)::stDelD b L)
 | [],_=>List.Perm.refl _
 | x::r,h=>by
  obtain⟨h1,h2⟩:=List.pairwise_cons.1 h
  unfold stPutD
  split
  ·rename_i c
   have e:stDelD b (x::r)=x::stDelD b r:=by unfold stDelD;rw [List.filter_cons_of_pos (by simp;omega)]
   rw [e]
   exact ((stPutD_perm h2).cons x).trans (List.Perm.swap (b,u) x _)
  split
  ·rename_i c1 c2
   have e:stDelD b (x::r)=x::r:=by
    unfold stDelD
    rw [List.filter_eq_self]
    intro y hy
    have:b < y.1:=by
     rcases List.mem_cons.1 hy with rfl | hy
     ·exact c2
     ·have:=h1 y hy;omega
    simp;omega
   rw [e]
  ·rename_i c1 c2
   have ht:x.1=b:=by omega
   have e:stDelD b (x::r)=r:=by
    unfold stDelD
    rw [List.filter_cons_of_neg (by simp [ht]),List.filter_eq_self]
    intro y hy
    have:=h1 y hy
    simp;omega
   rw [e]
theorem stPutD_srt {b u:Int}:∀ {L:List (Int×Int)},SrtD L→SrtD (stPutD b u L)
 | [],_=>List.pairwise_singleton _ _
 | x::r,h=>by
  obtain⟨h1,h2⟩:=List.pairwise_cons.1 h
  unfold stPutD
  split
  ·rename_i c
   refine List.pairwise_cons.2 ⟨fun y hy=>?_,stPutD_srt h2⟩
   rcases stPutD_mem hy with rfl | hy
   ·exact c
   ·exact h1 y hy
  split
  ·rename_i c1 c2
   refine List.pairwise_cons.2 ⟨fun y hy=>?_,h⟩
   rcases List.mem_cons.1 hy with rfl | hy
   ·exact c2
   ·have:=h1 y hy;show b < y.1;omega
  ·rename_i c1 c2
   exact List.pairwise_cons.2 ⟨fun y hy=>by have:=h1 y hy;show b < y.1;omega,h2⟩
theorem stPutD_le (b u:Int):∀ L:List (Int×Int),(stPutD b u L).length≤L.length+1
 | []=>by simp [stPutD]
 | x::r=>by
  have:=stPutD_le b u r
  unfold stPutD
  split
  ·simp only [List.length_cons];omega
  split <;> simp
theorem stHasD_iff {b:Int} {L:List (Int×Int)}:stHasD b L=true↔∃ x∈L,x.1=b:=by simp [stHasD]
theorem stPutD_eq {b u:Int}:∀ {L:List (Int×Int)},SrtD L→stHasD b L=true→(stPutD b u L).length=L.length
 | [],_,h=>by simp [stHasD] at h
 | x::r,h,hh=>by
  obtain⟨h1,h2⟩:=List.pairwise_cons.1 h
  obtain⟨y,hy,ht⟩:=stHasD_iff.1 hh
  unfold stPutD
  split
  ·rename_i c
   rcases List.mem_cons.1 hy with rfl | hy
   ·omega
   ·have:=stPutD_eq (u:=u) h2 (stHasD_iff.2 ⟨y,hy,ht⟩)
    simp only [List.length_cons];omega
  split
  ·rename_i c1 c2
   rcases List.mem_cons.1 hy with rfl | hy
   ·omega
   ·have:=h1 y hy;omega
  ·simp
theorem stPutD_last {b u:Int}:∀ {L:List (Int×Int)},(∀ x∈L,x.1 < b)→stPutD b u L=L++[(b,u)]
 | [],_=>rfl
 | x::r,h=>by
  unfold stPutD
  rw [if_pos (h x (by simp)),stPutD_last (fun y hy=>h y (by simp [hy]))]
  rfl
theorem SrtD.filter {L:List (Int×Int)} (h:SrtD L) (p:Int×Int→Bool):SrtD (L.filter p):=List.Pairwise.filter p h
/-! ### A record applied -/
theorem badSt_false {r:Rec}:badSt r=false↔mayRec r=true∧r.kind≠6∧(r.kind=3→gensMay r.bks=true):=by
 unfold badSt
 simp only [Bool.or_eq_false_iff,decide_eq_false_iff_not,Bool.and_eq_false_iff,Bool.not_eq_eq_eq_not,Bool.not_false]
 constructor
 ·rintro ⟨h1,h2,h3⟩
  refine⟨h1,h2,fun h=>?_⟩
  rcases h3 with h3 | h3
  ·exact absurd h h3
  ·exact h3
 ·rintro ⟨h1,h2,h3⟩
  refine⟨h1,h2,?_⟩
  by_cases h:r.kind=3
  ·exact Or.inr (h3 h)
  ·exact Or.inl h
theorem applySt_ok {s:StD} {r:Rec}:(applySt s r).2=0↔badSt r=false∧fullSt s r=false:=by
 unfold applySt
 cases badSt r <;> cases fullSt s r <;> simp
theorem applySt_do {s:StD} {r:Rec} (h:(applySt s r).2=0):(applySt s r).1=doSt s r:=by
 obtain⟨h1,h2⟩:=applySt_ok.1 h
 unfold applySt;rw [if_neg (by simp [h1]),if_neg (by simp [h2])]
theorem applySt_err {s:StD} {r:Rec} (h:(applySt s r).2≠0):(applySt s r).1=s:=by
 unfold applySt at h ⊢
 cases hb:badSt r <;> cases hf:fullSt s r <;> simp_all
theorem fullSt_F {s:StD} {r:Rec} (hk:r.kind=1) (h:fullSt s r=false):stHasF r.fl.t s.fls=true∨s.fls.length < 256:=by
 unfold fullSt at h;rw [if_pos hk] at h
 simp only [Bool.and_eq_false_iff,Bool.not_eq_false',decide_eq_false_iff_not] at h
 rcases h with h | h
 ·exact Or.inl h
 ·exact Or.inr (by omega)
theorem fullSt_D {s:StD} {r:Rec} (hk:r.kind=4) (h:fullSt s r=false):stHasD r.bk s.drs=true∨s.drs.length < 16:=by
 unfold fullSt at h;rw [if_neg (by omega),if_pos hk] at h
 simp only [Bool.and_eq_false_iff,Bool.not_eq_false',decide_eq_false_iff_not] at h
 rcases h with h | h
 ·exact Or.inl h
 ·exact Or.inr (by omega)
theorem OkSt.apply {s:StD} (h:OkSt s) {r:Rec} (wr:WfR r):OkSt (applySt s r).1:=by
 by_cases he:(applySt s r).2=0
 case neg=>rw [applySt_err he];exact h
 rw [applySt_do he]
 obtain⟨h1,h2⟩:=applySt_ok.1 he
 obtain⟨m1,m2,m3⟩:=badSt_false.1 h1
 rw [mayRec_iff] at m1
 obtain⟨a1,a2,a3,a4,a5,a6,a7,a8,a9,a10,a11⟩:=h
 rcases m1 with ⟨k,m⟩|⟨k,m⟩|⟨k,m,m',m''⟩|⟨k,m,m'⟩|⟨k,m⟩|⟨k,m⟩
 ·have e:doSt s r={ s with fls:=stPutF r.fl s.fls }:=by unfold doSt;rw [if_pos k]
  rw [e]
  refine⟨a1,a2,a3,a4,a5,a6,a7,stPutF_srt a8,fun f hf=>?_,fun f hf=>?_,?_⟩
  ·rcases stPutF_mem hf with rfl | hf
   ·exact wr.t
   ·exact a9 f hf
  ·rcases stPutF_mem hf with rfl | hf
   ·exact m
   ·exact a10 f hf
  ·rcases fullSt_F k h2 with hh | hh
   ·show (stPutF r.fl s.fls).length≤256
    rw [stPutF_eq a8 hh];exact a11
   ·have:=stPutF_le r.fl s.fls
    show (stPutF r.fl s.fls).length≤256
    omega
 ·have e:doSt s r={ s with fls:=stDelF r.fl.t s.fls }:=by unfold doSt;rw [if_neg (by omega),if_pos k]
  rw [e]
  exact⟨a1,a2,a3,a4,a5,a6,a7,a8.filter _,fun f hf=>a9 f ((List.mem_filter.1 hf).1),fun f hf=>a10 f ((List.mem_filter.1 hf).1),Nat.le_trans (List.length_filter_le _ _) a11⟩
 ·have e:doSt s r={ s with gen:=r.gen,bks:=r.bks }:=by unfold doSt;rw [if_neg (by omega),if_neg (by omega),if_pos k]
  rw [e]
  exact⟨m.1,m.2,m3 k,wr.addr,a5,a6,a7,a8,a9,a10,a11⟩
 ·have e:doSt s r={ s with drs:=stPutD r.bk r.till s.drs }:=by unfold doSt;rw [if_neg (by omega),if_neg (by omega),if_neg (by omega),if_pos k]
  rw [e]
  refine⟨a1,a2,a3,a4,stPutD_srt a5,fun d hd=>?_,?_,a8,a9,a10,a11⟩
  ·rcases stPutD_mem hd with rfl | hd
   ·exact⟨m,m'⟩
   ·exact a6 d hd
  ·rcases fullSt_D k h2 with hh | hh
   ·show (stPutD r.bk r.till s.drs).length≤16
    rw [stPutD_eq a5 hh];exact a7
   ·have:=stPutD_le r.bk r.till s.drs
    show (stPutD r.bk r.till s.drs).length≤16
    omega
 ·have e:doSt s r={ s with drs:=stDelD r.bk s.drs }:=by unfold doSt;rw [if_neg (by omega),if_neg (by omega),if_neg (by omega),if_neg (by omega),if_pos k]
  rw [e]
  exact⟨a1,a2,a3,a4,a5.filter _,fun d hd=>a6 d ((List.mem_filter.1 hd).1),Nat.le_trans (List.length_filter_le _ _) a7,a8,a9,a10,a11⟩
 ·omega
/-! ### A state made anew -/
theorem applyAll_app:∀ (a b:List Rec) (s:StD),applyAll (a++b) s=if (applyAll a s).2≠0 then applyAll a s else applyAll b (applyAll a s).1
 | [],b,s=>by simp [applyAll]
 | r::a,b,s=>by
  by_cases h:(applySt s r).2≠0
  ·have e1:applyAll (r::(a++b)) s=applySt s r:=if_pos h
   have e2:applyAll (r::a) s=applySt s r:=if_pos h
   rw [List.cons_append,e1,e2,if_pos h]
  ·have e1:applyAll (r::(a++b)) s=applyAll (a++b) (applySt s r).1:=if_neg h
   have e2:applyAll (r::a) s=applyAll a (applySt s r).1:=if_neg h
   rw [List.cons_append,e1,e2,applyAll_app a b]
theorem may_inBk {v:Int} {l:List Bk} (h:l.all mayBk=true):(l.map (inBk v)).all mayBk=true:=by
 simp only [List.all_eq_true,List.mem_map] at h ⊢
 rintro _ ⟨b,hb,rfl⟩
 exact inBk_may (h b hb)
theorem inBk_id (v:Int) (b:Bk):(inBk v b).id=b.id∧(inBk v b).addr=b.addr:=by unfold inBk;split <;> simp
theorem upId_in (v:Int):∀ l:List Bk,upId (l.map (inBk v))=upId l
 | []=>rfl
 | [a]=>rfl
 | a::b::r=>by
  have ih:=upId_in v (b::r)
  simp only [List.map_cons] at ih ⊢
  simp only [upId,(inBk_id v _).1,ih]
theorem gensMay_in {v:Int} {l:List Bk} (h:gensMay l=true):gensMay (l.map (inBk v))=true:=by
 simp only [gensMay,Bool.and_eq_true] at h ⊢
 exact⟨by simpa using h.1,may_inBk h.2.1,by rw [upId_in];exact h.2.2⟩
theorem gensMay_len {l:List Bk} (h:gensMay l=true):l.length≤16∧∀ b∈l,mayBk b=true:=by
 simp only [gensMay,Bool.and_eq_true,decide_eq_true_eq,List.all_eq_true] at h
 exact⟨h.1,h.2.1⟩
theorem apply_gen {s:StD} {g:Int} {l:List Bk} (h0:0≤g) (h1:g≤1000000) (h2:gensMay l=true) (r:Rec) (hk:r.kind=3) (hg:r.gen=g) (hb:r.bks=l):applySt s r=({ s with gen:=g,bks:=l },0):=by
 subst hg hb
 obtain⟨l1,l2⟩:=gensMay_len h2
 have hb:badSt r=false:=badSt_false.2 ⟨mayRec_iff.2 (Or.inr (Or.inr (Or.inl ⟨hk,⟨h0,h1⟩,l1,l2⟩))),by omega,fun _=>h2⟩
 have hf:fullSt s r=false:=by unfold fullSt;rw [if_neg (by omega),if_neg (by omega)]
 unfold applySt;rw [if_neg (by simp [hb]),if_neg (by simp [hf])]
 unfold doSt;rw [if_neg (by omega),if_neg (by omega),if_pos hk]
theorem apply_dr {s:StD} {b u:Int} (h0:0≤b∧b≤65535) (h1:0≤u∧u≤1099511627776) (hn:stHasD b s.drs=true∨s.drs.length < 16) (r:Rec) (hk:r.kind=4) (hb:r.bk=b) (hu:r.till=u):applySt s r=({ s with drs:=stPutD b u s.drs },0):=by
 subst hb hu
 have hbad:badSt r=false:=badSt_false.2 ⟨mayRec_iff.2 (Or.inr (Or.inr (Or.inr (Or.inl ⟨hk,h0,h1⟩)))),by omega,fun h=>by omega⟩
 have hf:fullSt s r=false:=by
  unfold fullSt;rw [if_neg (by omega),if_pos hk]
  rcases hn with hn | hn
  ·simp [hn]
  ·have:decide (16≤s.drs.length)=false:=decide_eq_false (by omega)
   rw [this];simp
 unfold applySt;rw [if_neg (by simp [hbad]),if_neg (by simp [hf])]
 unfold doSt;rw [if_neg (by omega),if_neg (by omega),if_neg (by omega),if_pos hk]
theorem apply_fl {s:StD} {f:Fl} (h:MayF f) (hn:stHasF f.t s.fls=true∨s.fls.length < 256) (r:Rec) (hk:r.kind=1) (hf:r.fl=f):applySt s r=({ s with fls:=stPutF f s.fls },0):=by
 subst hf
 have hbad:badSt r=false:=badSt_false.2 ⟨mayRec_iff.2 (Or.inl ⟨hk,h⟩),by omega,fun h=>by omega⟩
 have hf:fullSt s r=false:=by
  unfold fullSt;rw [if_pos hk]
  rcases hn with hn | hn
  ·simp [hn]
  ·have:decide (256≤s.fls.length)=false:=decide_eq_false (by omega)
   rw [this];simp
 unfold applySt;rw [if_neg (by simp [hbad]),if_neg (by simp [hf])]
 unfold doSt;rw [if_pos hk]
theorem all_dr {g:Rec→Rec} (hg:∀ d,(g (recDr d)).kind=4∧(g (recDr d)).bk=d.1∧(g (recDr d)).till=d.2):∀ (L:List (Int×Int)) (s:StD),SrtD (s.drs++L)→(∀ d∈L,(0≤d.1∧d.1≤65535)∧0≤d.2∧d.2≤1099511627776)→s.drs.length+L.length≤16 →
  applyAll ((L.map recDr).map g) s=({ s with drs:=s.drs++L },0)
 | [],s,_,_,_=>by simp [applyAll]
 | d::L,s,hs,hm,hl=>by
  obtain⟨g1,g2,g3⟩:=hg d
  obtain⟨m1,m2⟩:=hm d (by simp)
  have hlt:∀ x∈s.drs,x.1 < d.1:=fun x hx=>(List.pairwise_append.1 hs).2.2 x hx d (by simp)
  simp only [List.length_cons] at hl
  have e:=apply_dr (s:=s) m1 m2 (Or.inr (by omega)) (g (recDr d)) g1 g2 g3
  simp only [List.map_cons,applyAll]
  rw [e,if_neg (by simp)]
  have hp:stPutD d.1 d.2 s.drs=s.drs++[d]:=stPutD_last hlt
  have ih:=all_dr hg L { s with drs:=stPutD d.1 d.2 s.drs } (by show SrtD (stPutD d.1 d.2 s.drs++L);rw [hp,List.append_assoc];exact hs) (fun x hx=>hm x (by simp [hx])) (by show (stPutD d.1 d.2 s.drs).length+L.length≤16;rw [hp];simp;omega)
  rw [ih]
  show (({ s with drs:=stPutD d.1 d.2 s.drs++L }:StD),(0:Int))=_
  rw [hp,List.append_assoc];rfl
theorem all_fl {g:Rec→Rec} {p:Fl→Fl} (hg:∀ f,(g (recFl f)).kind=1∧(g (recFl f)).fl=p f) (hp:∀ f,(p f).t=f.t) (hpm:∀ f,MayF f→MayF (p f)):∀ (L:List Fl) (s:StD),SrtF (s.fls++L)→(∀ f∈L,MayF f)→s.fls.length+L.length≤256 →
  applyAll ((L.map recFl).map g) s=({ s with fls:=s.fls++L.map p },0)
 | [],s,_,_,_=>by simp [applyAll]
 | f::L,s,hs,hm,hl=>by
  obtain⟨g1,g2⟩:=hg f
  have hlt:∀ x∈s.fls,ltT x.t (p f).t=true:=fun x hx=>by rw [hp];exact (List.pairwise_append.1 hs).2.2 x hx f (by simp)
  simp only [List.length_cons] at hl
  have e:=apply_fl (s:=s) (hpm f (hm f (by simp))) (Or.inr (by omega)) (g (recFl f)) g1 g2
  simp only [List.map_cons,applyAll]
  rw [e,if_neg (by simp)]
  have hq:stPutF (p f) s.fls=s.fls++[p f]:=stPutF_last hlt
  have ih:=all_fl hg hp hpm L { s with fls:=stPutF (p f) s.fls } (by
   show SrtF (stPutF (p f) s.fls++L)
   rw [hq]
   unfold SrtF at hs ⊢
   rw [List.append_assoc,List.pairwise_append] at *
   refine⟨hs.1,?_,fun a ha b hb=>?_⟩
   ·rw [List.singleton_append,List.pairwise_cons] 
    have h2:=List.pairwise_cons.1 hs.2.1
    exact⟨fun b hb=>by rw [hp];exact h2.1 b hb,h2.2⟩
   ·rcases List.mem_append.1 hb with hb | hb
    ·simp at hb;subst hb;rw [hp];exact hs.2.2 a ha f (by simp)
    ·exact hs.2.2 a ha b (by simp [hb])) (fun x hx=>hm x (by simp [hx])) (by show (stPutF (p f) s.fls).length+L.length≤256;rw [hq];simp;omega)
  rw [ih]
  show (({ s with fls:=stPutF (p f) s.fls++L.map p }:StD),(0:Int))=_
  rw [hq,List.append_assoc];rfl
theorem all_recs {s:StD} (h:OkSt s) {g:Rec→Rec} {p:Fl→Fl} {q:List Bk→List Bk} (hg1:(g (recGen s)).kind=3∧(g (recGen s)).gen=s.gen∧(g (recGen s)).bks=q s.bks) (hq:gensMay (q s.bks)=true)
  (hg2:∀ d,(g (recDr d)).kind=4∧(g (recDr d)).bk=d.1∧(g (recDr d)).till=d.2) (hg3:∀ f,(g (recFl f)).kind=1∧(g (recFl f)).fl=p f) (hp:∀ f,(p f).t=f.t) (hpm:∀ f,MayF f→MayF (p f)) :
  applyAll ((recsSt s).map g) zeroSt=(⟨s.gen,q s.bks,s.drs,s.fls.map p⟩,0):=by
 have e1:=apply_gen (s:=zeroSt) h.g0 h.g1 hq (g (recGen s)) hg1.1 hg1.2.1 hg1.2.2
 unfold recsSt
 rw [List.map_cons,List.map_append]
 simp only [applyAll]
 rw [e1,if_neg (by simp),applyAll_app]
 have e2:=all_dr hg2 s.drs { zeroSt with gen:=s.gen,bks:=q s.bks } (by simpa [zeroSt] using h.dsort) h.dmay (by simpa [zeroSt] using h.dlen)
 rw [e2,if_neg (by simp)]
 have e3:=all_fl hg3 hp hpm s.fls { zeroSt with gen:=s.gen,bks:=q s.bks,drs:=([]:List (Int×Int))++s.drs } (by simpa [zeroSt] using h.fsort) h.fmay (by simpa [zeroSt] using h.flen)
 rw [show (zeroSt.drs:List (Int×Int))=[] from rfl]
 simp only
 rw [e3]
 simp [zeroSt]
theorem ofSt_ok {s:StD} (h:OkSt s):ofSt s=(some s,0):=by
 have e:=all_recs h (g:=id) (p:=id) (q:=id) ⟨rfl,rfl,rfl⟩ h.bks (fun d=>⟨rfl,rfl,rfl⟩) (fun f=>⟨rfl,rfl⟩) (fun f=>rfl) (fun f hf=>hf)
 simp only [List.map_id,id] at e
 have e':applyAll (recsSt s) zeroSt=(s,0):=e
 unfold ofSt
 rw [e'];simp
theorem inRec_gen {v:Int} (hv:verOk v=true) (s:StD):inRec (recGen s) v=⟨3,zeroF,s.gen,s.bks.map (inBk v),0,0,0⟩:=by
 unfold inRec;rw [if_neg (by simp [hv])];simp [plainRec,recGen]
theorem inRec_dr {v:Int} (hv:verOk v=true) (d:Int×Int):inRec (recDr d) v=recDr d:=by
 unfold inRec;rw [if_neg (by simp [hv])];simp [plainRec,recDr]
theorem inRec_fl {v:Int} (hv:verOk v=true) (f:Fl):inRec (recFl f) v=recFl (inFl v f):=by
 unfold inRec;rw [if_neg (by simp [hv])];simp [plainRec,recFl]
theorem made_in {s:StD} (h:OkSt s) {v:Int} (hv:verOk v=true):applyAll ((recsSt s).map (fun r=>inRec r v)) zeroSt=(inSt v s,0):=
 all_recs h (p:=inFl v) (q:=fun l=>l.map (inBk v)) (by rw [inRec_gen hv];exact⟨rfl,rfl,rfl⟩) (gensMay_in h.bks) (fun d=>by rw [inRec_dr hv];exact⟨rfl,rfl,rfl⟩) (fun f=>by rw [inRec_fl hv];exact⟨rfl,rfl⟩) (fun f=>rfl) (fun f hf=>inFl_may hf)
theorem WfR.recs {s:StD} (h:OkSt s):∀ r∈recsSt s,WfR r∧mayRec r=true∧r.kind≠6:=by
 intro r hr
 have z:WfT zeroT:=⟨by decide,by decide,by decide,by decide,by decide,by decide,by decide,by decide,by decide,by decide⟩
 simp only [recsSt,List.mem_cons,List.mem_append,List.mem_map] at hr
 rcases hr with rfl | ⟨d,hd,rfl⟩|⟨f,hf,rfl⟩
 ·obtain⟨l1,l2⟩:=gensMay_len h.bks
  exact⟨⟨z,h.addr⟩,mayRec_iff.2 (Or.inr (Or.inr (Or.inl ⟨rfl,⟨h.g0,h.g1⟩,l1,l2⟩))),by simp [recGen]⟩
 ·exact⟨⟨z,by simp [recDr]⟩,mayRec_iff.2 (Or.inr (Or.inr (Or.inr (Or.inl ⟨rfl,h.dmay d hd⟩)))),by simp [recDr]⟩
 ·exact⟨⟨h.fwf f hf,by simp [recFl]⟩,mayRec_iff.2 (Or.inl ⟨rfl,h.fmay f hf⟩),by simp [recFl]⟩
theorem recsSt_len {s:StD} (h:OkSt s):(recsSt s).length≤273:=by
 have h1:=h.dlen;have h2:=h.flen
 simp [recsSt];omega
/-! ### A log read -/
theorem rdAll_app:∀ (a b:List FrD) (s:StD),rdAll (a++b) s=if (rdAll a s).2≠0 then rdAll a s else rdAll b (rdAll a s).1
 | [],b,s=>by simp [rdAll]
 | r::a,b,s=>by
  by_cases h:(rdFr s r).2≠0
  ·have e1:rdAll (r::(a++b)) s=rdFr s r:=if_pos h
   have e2:rdAll (r::a) s=rdFr s r:=if_pos h
   rw [List.cons_append,e1,e2,if_pos h]
  ·have e1:rdAll (r::(a++b)) s=rdAll (a++b) (rdFr s r).1:=if_neg h
   have e2:rdAll (r::a) s=rdAll a (rdFr s r).1:=if_neg h
   rw [List.cons_append,e1,e2,rdAll_app a b]
theorem apply_in {s:StD} {r:Rec} {v:Int} (hv:verOk v=true) (h:(applySt s r).2=0):(applySt s (inRec r v)).2=0:=by
 obtain⟨h1,h2⟩:=applySt_ok.1 h
 obtain⟨m1,m2,m3⟩:=badSt_false.1 h1
 have hk:=inRec_kind (r:=r) hv
 have e:inRec r v=⟨(plainRec r).kind,if r.kind=1 then inFl v (plainRec r).fl else (plainRec r).fl,(plainRec r).gen,(plainRec r).bks.map (inBk v),(plainRec r).bk,(plainRec r).till,(plainRec r).count⟩:=if_neg (by simp [hv])
 refine applySt_ok.2 ⟨badSt_false.2 ⟨inRec_may hv m1,by rw [hk];exact m2,fun hk3=>?_⟩,?_⟩
 ·rw [hk] at hk3
  rw [e];simp [plainRec,hk3];exact gensMay_in (m3 hk3)
 ·unfold fullSt at h2 ⊢
  rw [hk]
  by_cases k1:r.kind=1
  ·rw [if_pos k1] at h2 ⊢
   rw [e];simp only [if_pos k1,plainRec];exact h2
  ·rw [if_neg k1] at h2 ⊢
   by_cases k4:r.kind=4
   ·rw [if_pos k4] at h2 ⊢
    rw [e];simp [plainRec,k4];simpa using h2
   ·rw [if_neg k4]
theorem rdFr_enc {s:StD} {r:Rec} {v:Int} (wr:WfR r) (hv:verOk v=true) (hm:mayRec r=true) (h6:r.kind≠6):rdFr s (encRec r v).1=applySt s (inRec r v):=by
 obtain⟨_,e⟩:=dec_enc wr hv hm
 unfold rdFr
 rw [e]
 have:¬ ((0:Int)≠0∨(inRec r v).kind=6):=by rw [inRec_kind hv];simp [h6]
 rw [if_neg this]
theorem intLawS:Keyed Tryz.prog 3:=Maps.int_keyed Tryz.underlying3
abbrev svT (x:Fl):Value:=.agg (encT x.t)
abbrev svF (x:Fl):Value:=.agg (encF x)
abbrev SFM (b:Nat) (L:List Fl):Asrt:=TabA Tryz.prog 41 svT svF b L
abbrev sdK (x:Int×Int):Value:=.int .i64 x.1
abbrev sdV (x:Int×Int):Value:=.int .i64 x.2
abbrev SDM (b:Nat) (L:List (Int×Int)):Asrt:=TabA Tryz.prog 3 sdK sdV b L
abbrev stC (s:StD) (bv:Value) (dm fm:Nat):Array Value:=#[.int .i64 s.gen,bv,.map (some dm),.map (some fm)]
def StR (sb dm fm:Nat) (bv:Value) (s:StD):List Asrt:=[Cells sb (stC s bv dm fm) 121,BkR bv s.bks,SDM dm s.drs,SFM fm s.fls]
theorem StR.framed {sb dm fm:Nat} {bv:Value} {s:StD}:∀ A∈StR sb dm fm bv s,Framed A:=by
 intro A hA
 simp only [StR,List.mem_cons,List.not_mem_nil,or_false] at hA
 rcases hA with rfl | rfl | rfl | rfl
 ·exact Cells.framed _ _ _
 ·exact RowA.framed _ _ _ _ _
 ·exact TabA.framed _ _
 ·exact TabA.framed _ _
def StA (sb:Nat) (s:StD):Asrt:=fun w F=>∃ dm fm bv,OkSt s∧Star (StR sb dm fm bv s) w F
theorem StA.framed (sb:Nat) (s:StD):Framed (StA sb s):=by
 refine⟨?_,?_⟩
 ·rintro w w' F ⟨dm,fm,bv,h1,h2⟩ hk;exact⟨dm,fm,bv,h1,(Framed.star StR.framed).keep h2 hk⟩
 ·rintro w F ⟨dm,fm,bv,h1,h2⟩;exact (Framed.star StR.framed).lt h2
theorem star_backS {w:World}:∀ {A1 R:List Asrt} {F1 F2:List Nat},Star A1 w F1→Star R w F2→Apart F1 F2→Star (A1++R) w (F1++F2)
 | [],R,F1,F2,h1,h2,_=>by obtain rfl:F1=[]:=h1;simpa using h2
 | A::A1,R,F1,F2,⟨G1,G2,g1,g2,g3,e⟩,h2,h3=>by
  refine⟨G1,G2++F2,g1,star_backS g2 h2 (fun b hb=>h3 b (by rw [e];exact List.mem_append_right _ hb)),fun b hb hb2=>?_,by rw [e,List.append_assoc]⟩
  rcases List.mem_append.1 hb2 with hb2 | hb2
  ·exact g3 b hb hb2
  ·exact h3 b (by rw [e];exact List.mem_append_left _ hb) hb2
section
variable {F0:List Nat} {w0 w:World} {R:List Asrt} {sb:Nat} {s:StD}
theorem In.stOpen (h:In F0 w0 w (StA sb s::R)):OkSt s∧∃ dm fm a c,In F0 w0 w (Cells sb (stC s (.slice a s.bks.length c) dm fm) 121::BkR (.slice a s.bks.length c) s.bks::SDM dm s.drs::SFM fm s.fls::R):=by
 obtain⟨F,⟨F1,F2,⟨dm,fm,bv,hok,h1⟩,h2,h3,rfl⟩,hF⟩:=h.star
 have h4:In F0 w0 w (StR sb dm fm bv s++R):=by
  refine⟨fun B hB=>?_,⟨_,star_backS h1 h2 h3,hF⟩,h.mod⟩
  rcases List.mem_append.1 hB with hB | hB
  ·exact StR.framed _ hB
  ·exact h.framed B (List.mem_cons_of_mem _ hB)
 obtain⟨Fv,rv⟩:=h4.get 1 rfl
 obtain⟨a,c,rfl,-,-,-⟩:=RowA.shape rv
 exact⟨hok,dm,fm,a,c,h4⟩
theorem In.stClose {dm fm:Nat} {bv:Value} (hok:OkSt s) (h:In F0 w0 w (Cells sb (stC s bv dm fm) 121::BkR bv s.bks::SDM dm s.drs::SFM fm s.fls::R)):In F0 w0 w (StA sb s::R):=
 (In.join (A1:=StR sb dm fm bv s) (R:=R) h).imp (A':=StA sb s) 0 rfl (StA.framed _ _) (fun F hF=>⟨dm,fm,bv,hok,hF⟩)
theorem o_stnew (h:In F0 w0 w R):Calls Tryz.prog 33 #[] w fun e w'=>∃ sb,e=.returned (pR sb)∧In F0 w0 w' (StA sb zeroSt::R):=by
 have h1:=tab_make h Tryz.prog 3 sdK sdV
 have h2:=tab_make h1 Tryz.prog 41 svT svF
 have e1:(w.alloc (Obj.map #[] 0)).heap.size=w.heap.size+1:=Array.size_push _
 have e2:((w.alloc (Obj.map #[] 0)).alloc (Obj.map #[] 0)).heap.size=w.heap.size+1+1:=by rw [show ((w.alloc (Obj.map #[] 0)).alloc (Obj.map #[] 0)).heap.size=(w.alloc (Obj.map #[] 0)).heap.size+1 from Array.size_push _,e1]
 have h3:=(h2.cells #[.int .i64 0,.slice none 0 0,.map (some w.heap.size),.map (some (w.heap.size+1))] 121).rownil 108 3
 rw [e1,e2] at h3
 have HF:=Lib.hid (In.stClose (s:=zeroSt) OkSt.zero (In.sel2 (R1:=[_,_,_,_]) (R2:=R) h3 [1,0,3,2] (by decide) rfl))
 clear h h1 h2 h3 e1 e2
 have hmm:=@run_makeMap Tryz.prog
 go_enter Tryz.func33,Tryz.ntmps33
 go_wp2_with fail
 go_ret
 exact⟨_,rfl,HF.out⟩
/-! ### The maps -/
theorem svT_inj {x y:Fl} (h:svT x=svT y):x.t=y.t:=by
 obtain⟨⟨a1,a2,a3,a4,a5⟩,_,_,_⟩:=x
 obtain⟨⟨b1,b2,b3,b4,b5⟩,_,_,_⟩:=y
 simp [svT,encT] at h
 simp [h]
theorem nodup_svT {L:List Fl} (h:SrtF L):(L.map svT).Nodup:=by
 unfold List.Nodup
 rw [List.pairwise_map]
 refine List.Pairwise.imp (fun {x y} hl e=>?_) h
 rw [svT_inj e,ltT_irrefl] at hl;cases hl
theorem nodup_sdK {L:List (Int×Int)} (h:SrtD L):(L.map sdK).Nodup:=by
 unfold List.Nodup
 rw [List.pairwise_map]
 refine List.Pairwise.imp (fun {x y} hl e=>?_) h
 simp only [sdK,Value.int.injEq,true_and] at e
 omega
theorem zero_flowS (w:World):(zeroValue 43).run Tryz.prog w=.ok (.agg (encF zeroF)) w:=by kernel_rfl
variable {fm dm:Nat} {L:List Fl} {M:List (Int×Int)}
theorem tne_iff {t:Tup} {x:Fl}:decide (x.t≠t)=true↔svT x≠.agg (encT t):=by
 rw [decide_eq_true_eq]
 exact⟨fun h e=>h (svT_inj (y:=⟨t,0,0,0⟩) e),fun h e=>h (by rw [← e])⟩
theorem sf_put (h:In F0 w0 w R) (i:Nat) (hA:R[i]?=some (SFM fm L)) (hs:SrtF L) {f:Fl} (wt:WfT f.t):∃ w',(Instr.mapUpdate 119 (.map (some fm)) (.agg (encT f.t)) (.agg (encF f))).run Tryz.prog w=.ok () w'∧Turn fm w w'∧In F0 w0 w' (R.set i (SFM fm (stPutF f L))):=by
 obtain⟨kl,hkl⟩:=keyOf_tup wt
 obtain⟨w',h1,h2,h3⟩:=tab_put h i hA tupLaw Tryz.underlying119 f hkl (nodup_svT hs) (fun x=>decide (x.t≠f.t)) (fun x _=>tne_iff)
 have hi:=(List.getElem?_eq_some_iff.1 hA).1
 have:=tab_perm (L':=stPutF f L) h3 i (by rw [List.getElem?_set_self hi];rfl) (stPutF_perm hs)
 rw [List.set_set] at this
 exact⟨w',h1,h2,this⟩
theorem sf_del (h:In F0 w0 w R) (i:Nat) (hA:R[i]?=some (SFM fm L)) (hs:SrtF L) {t:Tup} (wt:WfT t) (k2 ty:TypeId):∃ w',(Builtin.delete_ #[119,k2] ty #[.map (some fm),.agg (encT t)]).run Tryz.prog w=.ok (.tuple #[]) w'∧Turn fm w w'∧In F0 w0 w' (R.set i (SFM fm (stDelF t L))):=by
 obtain⟨kl,hkl⟩:=keyOf_tup wt
 exact tab_del h i hA tupLaw Tryz.underlying119 hkl (nodup_svT hs) (fun x=>decide (x.t≠t)) (fun x _=>tne_iff) k2 ty
theorem sd_put (h:In F0 w0 w R) (i:Nat) (hA:R[i]?=some (SDM dm M)) (hs:SrtD M) {b:Int} (hb:(Lit.int .i64 b).wf=true) (u:Int):∃ w',(Instr.mapUpdate 118 (.map (some dm)) (.int .i64 b) (.int .i64 u)).run Tryz.prog w=.ok () w'∧Turn dm w w'∧In F0 w0 w' (R.set i (SDM dm (stPutD b u M))):=by
 obtain⟨w',h1,h2,h3⟩:=tab_put h i hA intLawS Tryz.underlying118 (b,u) (Maps.keyOf_int_mk Tryz.underlying3 hb) (nodup_sdK hs) (fun x=>decide (x.1≠b)) (fun x _=>by simp [sdK])
 have hi:=(List.getElem?_eq_some_iff.1 hA).1
 have:=tab_perm (L':=stPutD b u M) h3 i (by rw [List.getElem?_set_self hi];rfl) (stPutD_perm hs)
 rw [List.set_set] at this
 exact⟨w',h1,h2,this⟩
theorem sd_del (h:In F0 w0 w R) (i:Nat) (hA:R[i]?=some (SDM dm M)) (hs:SrtD M) {b:Int} (hb:(Lit.int .i64 b).wf=true) (k2 ty:TypeId):∃ w',(Builtin.delete_ #[118,k2] ty #[.map (some dm),.int .i64 b]).run Tryz.prog w=.ok (.tuple #[]) w'∧Turn dm w w'∧In F0 w0 w' (R.set i (SDM dm (stDelD b M))):=
 tab_del h i hA intLawS Tryz.underlying118 (Maps.keyOf_int_mk Tryz.underlying3 hb) (nodup_sdK hs) (fun x=>decide (x.1≠b)) (fun x _=>by simp [sdK]) k2 ty
end
def stGetF (t:Tup) (L:List Fl):Fl:=(L.find? (fun x=>decide (x.t=t))).getD zeroF
def stGetD (b:Int) (L:List (Int×Int)):Int:=((L.find? (fun x=>decide (x.1=b))).map (·.2)).getD 0
section
variable {F0:List Nat} {w0 w:World} {R:List Asrt} {sb:Nat} {s:StD} {fm dm:Nat} {L:List Fl} {M:List (Int×Int)}
theorem stGetF_eq (hs:SrtF L) {x:Fl} (hx:x∈L):stGetF x.t L=x:=by
 unfold stGetF
 cases e:L.find? (fun y=>decide (y.t=x.t)) with
 | none=>have:=List.find?_eq_none.1 e x hx;simp at this
 | some y=>
  have h1:=List.find?_some e
  have h2:=List.mem_of_find?_eq_some e
  simp only [decide_eq_true_eq] at h1
  exact ek_inj (nodup_svT hs) h2 hx (show svT y=svT x by simp only [svT,h1])
theorem stGetD_eq (hs:SrtD M) {x:Int×Int} (hx:x∈M):stGetD x.1 M=x.2:=by
 unfold stGetD
 cases e:M.find? (fun y=>decide (y.1=x.1)) with
 | none=>have:=List.find?_eq_none.1 e x hx;simp at this
 | some y=>
  have h1:=List.find?_some e
  have h2:=List.mem_of_find?_eq_some e
  simp only [decide_eq_true_eq] at h1
  have:y=x:=ek_inj (nodup_sdK hs) h2 hx (by simp only [sdK,h1])
  rw [this];rfl
theorem stGetF_no {t:Tup} (h:∀ x∈L,x.t≠t):stGetF t L=zeroF:=by
 unfold stGetF
 rw [List.find?_eq_none.2 (fun x hx=>by simpa using h x hx)];rfl
theorem stGetD_no {b:Int} (h:∀ x∈M,x.1≠b):stGetD b M=0:=by
 unfold stGetD
 rw [List.find?_eq_none.2 (fun x hx=>by simpa using h x hx)];rfl
theorem sf_get (h:In F0 w0 w R) (i:Nat) (hA:R[i]?=some (SFM fm L)) (hs:SrtF L) {t:Tup} (wt:WfT t):(Instr.lookup 119 (.map (some fm)) (.agg (encT t)) true).run Tryz.prog w=.ok (.tuple #[.agg (encF (stGetF t L)),.bool (stHasF t L)]) w:=by
 obtain⟨kl,hkl⟩:=keyOf_tup wt
 rcases tab_look h i hA tupLaw Tryz.underlying119 (zero_flowS w) hkl true with ⟨x,hx,e,hr⟩|⟨hn,hr⟩
 ·have e2:x.t=t:=svT_inj (y:=⟨t,0,0,0⟩) e
  have:stHasF t L=true:=stHasF_iff.2 ⟨x,hx,e2⟩
  rw [this,← e2,stGetF_eq hs hx];rw [e2];exact hr
 ·have hn2:∀ x∈L,x.t≠t:=fun x hx e=>hn x hx (by rw [← e])
  have:stHasF t L=false:=by
   cases e:stHasF t L with
   | false=>rfl
   | true=>obtain⟨x,hx,e⟩:=stHasF_iff.1 e;exact absurd e (hn2 x hx)
  rw [this,stGetF_no hn2];exact hr
theorem sd_get (h:In F0 w0 w R) (i:Nat) (hA:R[i]?=some (SDM dm M)) (hs:SrtD M) {b:Int} (hb:(Lit.int .i64 b).wf=true):(Instr.lookup 118 (.map (some dm)) (.int .i64 b) true).run Tryz.prog w=.ok (.tuple #[.int .i64 (stGetD b M),.bool (stHasD b M)]) w:=by
 rcases tab_look h i hA intLawS Tryz.underlying118 (z:=.int .i64 0) (by kernel_rfl) (Maps.keyOf_int_mk Tryz.underlying3 hb) true with ⟨x,hx,e,hr⟩|⟨hn,hr⟩
 ·simp only [sdK,Value.int.injEq,true_and] at e
  have:stHasD b M=true:=stHasD_iff.2 ⟨x,hx,e⟩
  rw [this,← e,stGetD_eq hs hx];rw [e];exact hr
 ·have hn2:∀ x∈M,x.1≠b:=fun x hx e=>hn x hx (by rw [← e])
  have:stHasD b M=false:=by
   cases e:stHasD b M with
   | false=>rfl
   | true=>obtain⟨x,hx,e⟩:=stHasD_iff.1 e;exact absurd e (hn2 x hx)
  rw [this,stGetD_no hn2];exact hr
def FuPost (b:Bool) (sb:Nat) (s:StD) (F0:List Nat) (w0:World) (R:List Asrt) (e:Ending) (w':World):Prop:=e=.returned (.bool b)∧In F0 w0 w' (StA sb s::R)
theorem o_full0 {r:Rec} {A:Option Addr} {c:Nat} (k1:r.kind≠1) (k4:r.kind≠4) (h:In F0 w0 w (StA sb s::R)):Calls Tryz.prog 102 #[pR sb,agR r A c] w (FuPost false sb s F0 w0 R):=by
 have HH:=Lib.hid fun o=>h.alloc o
 have q1:(r.kind == 1)=false:=beq_eq_false_iff_ne.2 k1
 have q4:(r.kind == 4)=false:=beq_eq_false_iff_ne.2 k4
 clear h k1 k4
 obtain⟨kind,⟨⟨src,dst,proto,sport,dport⟩,fbk,fgen,fseen⟩,gen,bks,bk,till,count⟩:=r
 simp only at q1 q4
 go_enter Tryz.func102,Tryz.ntmps102
 go_wp2_with fail
 go_ret
 exact⟨rfl,HH.out _⟩
theorem o_full4 {fl:Fl} {gen bk till count:Int} {bks:List Bk} {A:Option Addr} {c:Nat} (hb:(Lit.int .i64 bk).wf=true) (h:In F0 w0 w (StA sb s::R)):Calls Tryz.prog 102 #[pR sb,agR ⟨4,fl,gen,bks,bk,till,count⟩ A c] w (FuPost (!stHasD bk s.drs && decide (16≤s.drs.length)) sb s F0 w0 R):=by
 obtain⟨⟨src,dst,proto,sport,dport⟩,fbk,fgen,fseen⟩:=fl
 obtain⟨hok,dm,fm,a,c',h1⟩:=h.stOpen
 obtain⟨w1,hw1⟩:∃ w1,w1=w.alloc (.cells #[.int .i64 4,.int .u32 src,.int .u32 dst,.int .i64 proto,.int .i64 sport,.int .i64 dport,.int .i64 fbk,.int .i64 fgen,.int .i64 fseen,.int .i64 gen,.slice A bks.length c,.int .i64 bk,.int .i64 till,.int .i64 count] 45):=⟨_,rfl⟩
 have h2:=h1.cells #[.int .i64 4,.int .u32 src,.int .u32 dst,.int .i64 proto,.int .i64 sport,.int .i64 dport,.int .i64 fbk,.int .i64 fgen,.int .i64 fseen,.int .i64 gen,.slice A bks.length c,.int .i64 bk,.int .i64 till,.int .i64 count] 45
 rw [← hw1] at h2
 have c0:w1.cell? ⟨sb,2,none⟩=some (.map (some dm)):=cell_of (h2.block 1 rfl) rfl
 have c1:w1.cell? ⟨w.heap.size,11,none⟩=some (.int .i64 bk):=cell_of (h2.block 0 rfl) rfl
 have l0:∀ n,(Instr.lookup 118 (.map (some dm)) (.int .i64 bk) true).run Tryz.prog (w1.drewN n)=.ok (.tuple #[.int .i64 (stGetD bk s.drs),.bool (stHasD bk s.drs)]) (w1.drewN n):=fun n=>sd_get (h2.drewN n) 3 rfl hok.dsort hb
 have l1:∀ n ty,(Builtin.len_ #[118] ty #[.map (some dm)]).run Tryz.prog (w1.drewN n)=.ok (.int .i64 s.drs.length) (w1.drewN n):=fun n ty=>tab_len (h2.drewN n) 3 rfl Tryz.underlying118 ty
 have HF:=Lib.hid (fun n=>In.stClose hok (h2.drewN n).drop)
 have HW:=Lib.hid hw1
 have HL:Hid (s.drs.length < 16∨16≤s.drs.length):=Lib.hid (by omega)
 clear h h1 h2 hb hok hw1
 generalize stHasD bk s.drs=q at *
 generalize stGetD bk s.drs=u at *
 go_enter Tryz.func102,Tryz.ntmps102
 go_wp2_with fail
 rw [← HW.out]
 go_quiet (fail)
 cases q with
 | true=>
  go_wp2_with fail
  go_ret
  exact⟨rfl,HF.out _⟩
 | false=>
  rcases HL.out with hl | hl
  ·have H1:decide (16≤s.drs.length)=false:=decide_eq_false (by omega)
   have H2:decide ((16:Int)≤(s.drs.length:Int))=false:=decide_eq_false (by omega)
   have HP:Hid (FuPost (!false && decide (16≤s.drs.length)) sb s F0 w0 R (.returned (.bool false)) (w1.drewN nq)):=Lib.hid ⟨by rw [H1];rfl,HF.out nq⟩
   clear hl H1
   go_wp2_with fail
   go_ret
   exact HP.out
  ·have H1:decide (16≤s.drs.length)=true:=decide_eq_true hl
   have H2:decide ((16:Int)≤(s.drs.length:Int))=true:=decide_eq_true (by omega)
   have HP:Hid (FuPost (!false && decide (16≤s.drs.length)) sb s F0 w0 R (.returned (.bool true)) (w1.drewN nq)):=Lib.hid ⟨by rw [H1];rfl,HF.out nq⟩
   clear hl H1
   go_wp2_with fail
   go_ret
   exact HP.out
theorem o_full1 {src dst proto sport dport fbk fgen fseen gen bk till count:Int} {bks:List Bk} {A:Option Addr} {c:Nat} (wt:WfT ⟨src,dst,proto,sport,dport⟩) (h:In F0 w0 w (StA sb s::R)):Calls Tryz.prog 102 #[pR sb,agR ⟨1,⟨⟨src,dst,proto,sport,dport⟩,fbk,fgen,fseen⟩,gen,bks,bk,till,count⟩ A c] w (FuPost (!stHasF ⟨src,dst,proto,sport,dport⟩ s.fls && decide (256≤s.fls.length)) sb s F0 w0 R):=by
 obtain⟨hok,dm,fm,a,c',h1⟩:=h.stOpen
 obtain⟨w1,hw1⟩:∃ w1,w1=w.alloc (.cells #[.int .i64 1,.int .u32 src,.int .u32 dst,.int .i64 proto,.int .i64 sport,.int .i64 dport,.int .i64 fbk,.int .i64 fgen,.int .i64 fseen,.int .i64 gen,.slice A bks.length c,.int .i64 bk,.int .i64 till,.int .i64 count] 45):=⟨_,rfl⟩
 have h2:=h1.cells #[.int .i64 1,.int .u32 src,.int .u32 dst,.int .i64 proto,.int .i64 sport,.int .i64 dport,.int .i64 fbk,.int .i64 fgen,.int .i64 fseen,.int .i64 gen,.slice A bks.length c,.int .i64 bk,.int .i64 till,.int .i64 count] 45
 rw [← hw1] at h2
 have c0:w1.cell? ⟨sb,3,none⟩=some (.map (some fm))∧w1.cell? ⟨w.heap.size,1,none⟩=some (.int .u32 src)∧w1.cell? ⟨w.heap.size,2,none⟩=some (.int .u32 dst)∧w1.cell? ⟨w.heap.size,3,none⟩=some (.int .i64 proto)∧w1.cell? ⟨w.heap.size,4,none⟩=some (.int .i64 sport)∧w1.cell? ⟨w.heap.size,5,none⟩=some (.int .i64 dport):=⟨cell_of (h2.block 1 rfl) rfl,cell_of (h2.block 0 rfl) rfl,cell_of (h2.block 0 rfl) rfl,cell_of (h2.block 0 rfl) rfl,cell_of (h2.block 0 rfl) rfl,cell_of (h2.block 0 rfl) rfl⟩
 have l0:(Instr.lookup 119 (.map (some fm)) (.agg (encT ⟨src,dst,proto,sport,dport⟩)) true).run Tryz.prog w1.drew=.ok (.tuple #[.agg (encF (stGetF ⟨src,dst,proto,sport,dport⟩ s.fls)),.bool (stHasF ⟨src,dst,proto,sport,dport⟩ s.fls)]) w1.drew:=sf_get (h2.drewN 1) 4 rfl hok.fsort wt
 have l1:(Instr.lookup 119 (.map (some fm)) (.agg (encT ⟨src,dst,proto,sport,dport⟩)) true).run Tryz.prog (w1.alloc (.cells #[.int .u32 0,.int .u32 0,.int .i64 0,.int .i64 0,.int .i64 0,.int .i64 0,.int .i64 0,.int .i64 0] 43)).drew=.ok (.tuple #[.agg (encF (stGetF ⟨src,dst,proto,sport,dport⟩ s.fls)),.bool (stHasF ⟨src,dst,proto,sport,dport⟩ s.fls)]) (w1.alloc (.cells #[.int .u32 0,.int .u32 0,.int .i64 0,.int .i64 0,.int .i64 0,.int .i64 0,.int .i64 0,.int .i64 0] 43)).drew:=sf_get ((h2.alloc (.cells #[.int .u32 0,.int .u32 0,.int .i64 0,.int .i64 0,.int .i64 0,.int .i64 0,.int .i64 0,.int .i64 0] 43)).drewN 1) 4 rfl hok.fsort wt
 have HO:=Lib.hid h2
 have HK:=Lib.hid hok
 have HW:=Lib.hid hw1
 have HL:Hid (s.fls.length < 256∨256≤s.fls.length):=Lib.hid (by omega)
 clear h h1 h2 wt hok hw1
 generalize stHasF ⟨src,dst,proto,sport,dport⟩ s.fls=q at *
 generalize stGetF ⟨src,dst,proto,sport,dport⟩ s.fls=fv at *
 obtain⟨⟨f1,f2,f3,f4,f5⟩,f6,f7,f8⟩:=fv
 go_enter Tryz.func102,Tryz.ntmps102
 go_wp2_with fail
 rw [← HW.out]
 clear HW
 generalize w.heap.size=g at *
 go_region_held3 (fun w'=>w'.cell? ⟨sb,3,none⟩=some (.map (some fm))∧w'.cell? ⟨g,1,none⟩=some (.int .u32 src)∧w'.cell? ⟨g,2,none⟩=some (.int .u32 dst)∧w'.cell? ⟨g,3,none⟩=some (.int .i64 proto)∧w'.cell? ⟨g,4,none⟩=some (.int .i64 sport)∧w'.cell? ⟨g,5,none⟩=some (.int .i64 dport)) (go_keep) (fail)
 all_goals
  clear l0 l1 c0
  have HX:=Lib.hid (HO.out.alloc (.cells #[.int .u32 f1,.int .u32 f2,.int .i64 f3,.int .i64 f4,.int .i64 f5,.int .i64 f6,.int .i64 f7,.int .i64 f8] 43))
  generalize (w1.alloc (.cells #[.int .u32 f1,.int .u32 f2,.int .i64 f3,.int .i64 f4,.int .i64 f5,.int .i64 f6,.int .i64 f7,.int .i64 f8] 43))=W at *
  have d0:W.drew.cell? ⟨sb,3,none⟩=some (.map (some fm)):=cell_of ((HX.out.drewN 1).block 1 rfl) rfl
  have d1:∀ ty,(Builtin.len_ #[119] ty #[.map (some fm)]).run Tryz.prog W.drew=.ok (.int .i64 s.fls.length) W.drew:=fun ty=>tab_len (HX.out.drewN 1) 4 rfl Tryz.underlying119 ty
  have HF:Hid (In F0 w0 W.drew (StA sb s::R)):=Lib.hid (In.stClose HK.out (HX.out.drewN 1).drop)
  clear HX HO HK
  cases q with
  | true=>
   clear d1
   go_wp2_with fail
   go_ret
   exact⟨rfl,HF.out⟩
  | false=>
   rcases HL.out with hl | hl
   ·have H1:decide (256≤s.fls.length)=false:=decide_eq_false (by omega)
    have H2:decide ((256:Int)≤(s.fls.length:Int))=false:=decide_eq_false (by omega)
    have HP:Hid (FuPost (!false && decide (256≤s.fls.length)) sb s F0 w0 R (.returned (.bool false)) W.drew):=Lib.hid ⟨by rw [H1];rfl,HF.out⟩
    clear hl H1 HL
    go_wp2_with fail
    go_ret
    exact HP.out
   ·have H1:decide (256≤s.fls.length)=true:=decide_eq_true hl
    have H2:decide ((256:Int)≤(s.fls.length:Int))=true:=decide_eq_true (by omega)
    have HP:Hid (FuPost (!false && decide (256≤s.fls.length)) sb s F0 w0 R (.returned (.bool true)) W.drew):=Lib.hid ⟨by rw [H1];rfl,HF.out⟩
    clear hl H1 HL
    go_wp2_with fail
    go_ret
    exact HP.out
theorem o_full {r:Rec} {A:Option Addr} {c:Nat} (wr:WfR r) (hm:mayRec r=true) (h:In F0 w0 w (StA sb s::R)):Calls Tryz.prog 102 #[pR sb,agR r A c] w (FuPost (fullSt s r) sb s F0 w0 R):=by
 by_cases k1:r.kind=1
 ·have e:fullSt s r=(!stHasF r.fl.t s.fls && decide (256≤s.fls.length)):=by unfold fullSt;rw [if_pos k1]
  rw [e]
  obtain⟨kind,⟨⟨src,dst,proto,sport,dport⟩,fbk,fgen,fseen⟩,gen,bks,bk,till,count⟩:=r
  subst k1
  exact o_full1 wr.t h
 by_cases k4:r.kind=4
 ·have e:fullSt s r=(!stHasD r.bk s.drs && decide (16≤s.drs.length)):=by unfold fullSt;rw [if_neg k1,if_pos k4]
  rw [e]
  have hb:(Lit.int .i64 r.bk).wf=true:=by
   rw [mayRec_iff] at hm
   exact wf_i64 (by omega) (by omega)
  obtain⟨kind,fl,gen,bks,bk,till,count⟩:=r
  subst k4
  exact o_full4 hb h
 ·have e:fullSt s r=false:=by unfold fullSt;rw [if_neg k1,if_neg k4]
  rw [e]
  exact o_full0 k1 k4 h
end
end Go.Proofs.YtaopfagclnocdaaGreat
