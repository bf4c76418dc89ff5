/- Rows.StoreRefusesSaid -/
import Derived.Test.YtpmmiljakbojaaaGreatRF4
import Derived.Test.YtpmmiljakbojaaaGreatRF3
namespace Go.Proofs.YtpmmiljakbojaaaGreat
open Go.RowKit
set_option linter.unusedVariables false
set_option maxHeartbeats 64000000
set_option maxRecDepth 100000
structure StD where
 gen:Int
 bks:List Bk
 drs:List (Int×Int)
 fls:List Fl
deriving DecidableEq,Inhabited
def zeroSt:StD:=⟨0,[],[],[]⟩
def upId:List Bk→Bool
 | a::b::r=>decide (a.id < b.id) && upId (b::r)
 | _=>true
def gensMay (l:List Bk):Bool:=decide (l.length≤16) && (l.all mayBk && upId l)
def stPutF (f:Fl):List Fl→List Fl
 | []=>[f]
 | x::r=>if ltT x.t f.t=true then x::stPutF f r else if ltT f.t x.t=true then f::x::r else f::r
def stDelF (t:Tup) (L:List Fl):List Fl:=L.filter (fun x=>decide (x.t≠t))
def stHasF (t:Tup) (L:List Fl):Bool:=L.any (fun x=>decide (x.t=t))
def stPutD (b u:Int):List (Int×Int)→List (Int×Int)
 | []=>[(b,u)]
 | x::r=>if x.1 < b then x::stPutD b u r else if b < x.1 then (b,u)::x::r else (b,u)::r
def stDelD (b:Int) (L:List (Int×Int)):List (Int×Int):=L.filter (fun x=>decide (x.1≠b))
def stHasD (b:Int) (L:List (Int×Int)):Bool:=L.any (fun x=>decide (x.1=b))
def fullSt (s:StD) (r:Rec):Bool:=
 if r.kind=1 then !stHasF r.fl.t s.fls && decide (256≤s.fls.length)
 else if r.kind=4 then !stHasD r.bk s.drs && decide (16≤s.drs.length)
 else false
def badSt (r:Rec):Bool:=!mayRec r || (decide (r.kind=6) || (decide (r.kind=3) && !gensMay r.bks))
def doSt (s:StD) (r:Rec):StD:=
 if r.kind=1 then { s with fls:=stPutF r.fl s.fls }
 else if r.kind=2 then { s with fls:=stDelF r.fl.t s.fls }
 else if r.kind=3 then { s with gen:=r.gen,bks:=r.bks }
 else if r.kind=4 then { s with drs:=stPutD r.bk r.till s.drs }
 else if r.kind=5 then { s with drs:=stDelD r.bk s.drs }
 else s
def applySt (s:StD) (r:Rec):StD×Int:=
 if badSt r=true then (s,1) else if fullSt s r=true then (s,9) else (doSt s r,0)
def recGen (s:StD):Rec:=⟨3,zeroF,s.gen,s.bks,0,0,0⟩
def recDr (d:Int×Int):Rec:=⟨4,zeroF,0,[],d.1,d.2,0⟩
def recFl (f:Fl):Rec:=⟨1,f,0,[],0,0,0⟩
def recsSt (s:StD):List Rec:=recGen s::(s.drs.map recDr++s.fls.map recFl)
def applyAll:List Rec→StD→StD×Int
 | [],s=>(s,0)
 | r::l,s=>if (applySt s r).2≠0 then applySt s r else applyAll l (applySt s r).1
def ofSt (v:StD):Option StD×Int:=
 if (applyAll (recsSt v) zeroSt).2≠0 then (none,(applyAll (recsSt v) zeroSt).2)
 else if (applyAll (recsSt v) zeroSt).1=v then (some v,0) else (none,1)
def inSt (v:Int) (s:StD):StD:=⟨s.gen,s.bks.map (inBk v),s.drs,s.fls.map (inFl v)⟩
def rdFr (s:StD) (f:FrD):StD×Int:=if (decRec f).2≠0∨(decRec f).1.kind=6 then (s,3) else applySt s (decRec f).1
def rdAll:List FrD→StD→StD×Int
 | [],s=>(s,0)
 | f::l,s=>if (rdFr s f).2≠0 then rdFr s f else rdAll l (rdFr s f).1
def SrtF (L:List Fl):Prop:=L.Pairwise (fun x y=>ltT x.t y.t=true)
def SrtD (L:List (Int×Int)):Prop:=L.Pairwise (fun x y=>x.1 < y.1)
structure OkSt (s:StD):Prop where
 g0:0≤s.gen
 g1:s.gen≤1000000
 bks:gensMay s.bks=true
 addr:∀ b∈s.bks,0≤b.addr∧b.addr < 4294967296
 dsort:SrtD s.drs
 dmay:∀ d∈s.drs,(0≤d.1∧d.1≤65535)∧0≤d.2∧d.2≤1099511627776
 dlen:s.drs.length≤16
 fsort:SrtF s.fls
 fwf:∀ f∈s.fls,WfT f.t
 fmay:∀ f∈s.fls,MayF f
 flen:s.fls.length≤256
theorem OkSt.zero:OkSt zeroSt:=⟨by decide,by decide,rfl,by simp [zeroSt],List.Pairwise.nil,by simp [zeroSt],by decide,List.Pairwise.nil,by simp [zeroSt],by simp [zeroSt],by decide⟩
/-! ### Flows by tuple -/
theorem stPutF_mem {f x:Fl}:∀ {L:List Fl},x∈stPutF f L→x=f∨x∈L
 | [],h=>by simp [stPutF] at h;exact Or.inl h
 | y::r,h=>by
  unfold stPutF at h
  split at h
  ·rcases List.mem_cons.1 h with rfl | h
   ·exact Or.inr (by simp)
   ·rcases stPutF_mem h with h | h
    ·exact Or.inl h
    ·exact Or.inr (by simp [h])
  split at h
  ·rcases List.mem_cons.1 h with rfl | h
   ·exact Or.inl rfl
   ·exact Or.inr h
  ·rcases List.mem_cons.1 h with rfl | h
   ·exact Or.inl rfl
   ·exact Or.inr (by simp [h])
theorem stPutF_perm {f:Fl}:∀ {L:List Fl},SrtF L→(stPutF f L).Perm (f::stDelF f.t L)
 | [],_=>List.Perm.refl _
 | x::r,h=>by
  obtain⟨h1,h2⟩:=List.pairwise_cons.1 h
  unfold stPutF
  split
  ·rename_i c
   have hx:x.t≠f.t:=fun e=>by rw [e,ltT_irrefl] at c;cases c
   have e:stDelF f.t (x::r)=x::stDelF f.t r:=by unfold stDelF;rw [List.filter_cons_of_pos (by simpa using hx)]
   rw [e]
   exact ((stPutF_perm h2).cons x).trans (List.Perm.swap f x _)
  split
  ·rename_i c1 c2
   have e:stDelF f.t (x::r)=x::r:=by
    unfold stDelF
    rw [List.filter_eq_self]
    intro y hy
    have:ltT f.t y.t=true:=by
     rcases List.mem_cons.1 hy with rfl | hy
     ·exact c2
     ·exact ltT_trans c2 (h1 y hy)
    simp only [decide_eq_true_eq]
    intro e;rw [e,ltT_irrefl] at this;cases this
   rw [e]
  ·rename_i c1 c2
   have ht:x.t=f.t:=ltT_total (by simpa using c1) (by simpa using c2)
   have e:stDelF f.t (x::r)=r:=by
    unfold stDelF
    rw [List.filter_cons_of_neg (by simp [ht]),List.filter_eq_self]
    intro y hy
    have:=h1 y hy
    simp only [decide_eq_true_eq]
    intro e;rw [ht,e,ltT_irrefl] at this;cases this
   rw [e]
theorem stPutF_srt {f:Fl}:∀ {L:List Fl},SrtF L→SrtF (stPutF f L)
 | [],_=>List.pairwise_singleton _ _
 | x::r,h=>by
  obtain⟨h1,h2⟩:=List.pairwise_cons.1 h
  unfold stPutF
  split
  ·rename_i c
   refine List.pairwise_cons.2 ⟨fun y hy=>?_,stPutF_srt h2⟩
   rcases stPutF_mem hy with rfl | hy
   ·exact c
   ·exact h1 y hy
  split
  ·rename_i c1 c2
   refine List.pairwise_cons.2 ⟨fun y hy=>?_,h⟩
   rcases List.mem_cons.1 hy with rfl | hy
   ·exact c2
   ·exact ltT_trans c2 (h1 y hy)
  ·rename_i c1 c2
   have ht:x.t=f.t:=ltT_total (by simpa using c1) (by simpa using c2)
   exact List.pairwise_cons.2 ⟨fun y hy=>by rw [← ht];exact h1 y hy,h2⟩
theorem stPutF_le (f:Fl):∀ L:List Fl,(stPutF f L).length≤L.length+1
 | []=>by simp [stPutF]
 | x::r=>by
  have:=stPutF_le f r
  unfold stPutF
  split
  ·simp only [List.length_cons];omega
  split <;> simp
theorem stHasF_iff {t:Tup} {L:List Fl}:stHasF t L=true↔∃ x∈L,x.t=t:=by simp [stHasF]
theorem stPutF_eq {f:Fl}:∀ {L:List Fl},SrtF L→stHasF f.t L=true→(stPutF f L).length=L.length
 | [],_,h=>by simp [stHasF] at h
 | x::r,h,hh=>by
  obtain⟨h1,h2⟩:=List.pairwise_cons.1 h
  obtain⟨y,hy,ht⟩:=stHasF_iff.1 hh
  unfold stPutF
  split
  ·rename_i c
   rcases List.mem_cons.1 hy with rfl | hy
   ·rw [ht,ltT_irrefl] at c;cases c
   ·have:=stPutF_eq h2 (stHasF_iff.2 ⟨y,hy,ht⟩)
    simp only [List.length_cons];omega
  split
  ·rename_i c1 c2
   rcases List.mem_cons.1 hy with rfl | hy
   ·rw [ht,ltT_irrefl] at c2;cases c2
   ·have:=ltT_trans c2 (h1 y hy)
    rw [ht,ltT_irrefl] at this;cases this
  ·simp
theorem stPutF_last {f:Fl}:∀ {L:List Fl},(∀ x∈L,ltT x.t f.t=true)→stPutF f L=L++[f]
 | [],_=>rfl
 | x::r,h=>by
  unfold stPutF
  rw [if_pos (h x (by simp)),stPutF_last (fun y hy=>h y (by simp [hy]))]
  rfl
theorem SrtF.filter {L:List Fl} (h:SrtF L) (p:Fl→Bool):SrtF (L.filter p):=List.Pairwise.filter p h
/-! ### Drains by number -/
theorem stPutD_mem {b u:Int} {x:Int×Int}:∀ {L:List (Int×Int)},x∈stPutD b u L→x=(b,u)∨x∈L
 | [],h=>by simp [stPutD] at h;exact Or.inl h
 | y::r,h=>by
  unfold stPutD at h
  split at h
  ·rcases List.mem_cons.1 h with rfl | h
   ·exact Or.inr (by simp)
   ·rcases stPutD_mem h with h | h
    ·exact Or.inl h
    ·exact Or.inr (by simp [h])
  split at h
  ·rcases List.mem_cons.1 h with rfl | h
   ·exact Or.inl rfl
   ·exact Or.inr h
  ·rcases List.mem_cons.1 h with rfl | h
   ·exact Or.inl rfl
   ·exact Or.inr (by simp [h])
theorem stPutD_perm {b u:Int}:∀ {L:List (Int×Int)},SrtD L→(stPutD b u L).Perm ((b,u)::stDelD b L)
 | [],_=>List.Perm.refl _
 | x::r,h=>by
  obtain⟨h1,h2⟩:=List.pairwise_cons.1 h
  unfold stPutD
  split
  ·rename_i c
   have e:stDelD b (x::r)=x::stDelD b r:=by unfold stDelD;rw [List.filter_cons_of_pos (by simp;omega)]
   rw [e]
   exact ((stPutD_perm h2).cons x).trans (List.Perm.swap (b,u) x _)
  split
  ·rename_i c1 c2
   have e:stDelD b (x::r)=x::r:=by
    unfold stDelD
    rw [List.filter_eq_self]
    intro y hy
    have:b < y.1:=by
     rcases List.mem_cons.1 hy with rfl | hy
     ·exact c2
     ·have:=h1 y hy;omega
    simp;omega
   rw [e]
  ·rename_i c1 c2
   have ht:x.1=b:=by omega
   have e:stDelD b (x::r)=r:=by
    unfold stDelD
    rw [List.filter_cons_of_neg (by simp [ht]),List.filter_eq_self]
    intro y hy
    have:=h1 y hy
    simp;omega
   rw [e]
theorem stPutD_srt {b u:Int}:∀ {L:List (Int×Int)},SrtD L→SrtD (stPutD b u L)
 | [],_=>List.pairwise_singleton _ _
 | x::r,h=>by
  obtain⟨h1,h2⟩:=List.pairwise_cons.1 h
  unfold stPutD
  split
  ·rename_i c
   refine List.pairwise_cons.2 ⟨fun y hy=>?_,stPutD_srt h2⟩
   rcases stPutD_mem hy with rfl | hy
   ·exact c
   ·exact h1 y hy
  split
  ·rename_i c1 c2
   refine List.pairwise_cons.2 ⟨fun y hy=>?_,h⟩
   rcases List.mem_cons.1 hy with rfl | hy
   ·exact c2
   ·have:=h1 y hy;show b < y.1;omega
  ·rename_i c1 c2
   exact List.pairwise_cons.2 ⟨fun y hy=>by have:=h1 y hy;show b < y.1;omega,h2⟩
theorem stPutD_le (b u:Int):∀ L:List (Int×Int),(stPutD b u L).length≤L.length+1
 | []=>by simp [stPutD]
 | x::r=>by
  have:=stPutD_le b u r
  unfold stPutD
  split
  ·simp only [List.length_cons];omega
  split <;> simp
theorem stHasD_iff {b:Int} {L:List (Int×Int)}:stHasD b L=true↔∃ x∈L,x.1=b:=by simp [stHasD]
theorem stPutD_eq {b u:Int}:∀ {L:List (Int×Int)},SrtD L→stHasD b L=true→(stPutD b u L).length=L.length
 | [],_,h=>by simp [stHasD] at h
 | x::r,h,hh=>by
  obtain⟨h1,h2⟩:=List.pairwise_cons.1 h
  obtain⟨y,hy,ht⟩:=stHasD_iff.1 hh
  unfold stPutD
  split
  ·rename_i c
   rcases List.mem_cons.1 hy with rfl | hy
   ·omega
   ·have:=stPutD_eq (u:=u) h2 (stHasD_iff.2 ⟨y,hy,ht⟩)
    simp only [List.length_cons];omega
  split
  ·rename_i c1 c2
   rcases List.mem_cons.1 hy with rfl | hy
   ·omega
   ·have:=h1 y hy;omega
  ·simp
theorem stPutD_last {b u:Int}:∀ {L:List (Int×Int)},(∀ x∈L,x.1 < b)→stPutD b u L=L++[(b,u)]
 | [],_=>rfl
 | x::r,h=>by
  unfold stPutD
  rw [if_pos (h x (by simp)),stPutD_last (fun y hy=>h y (by simp [hy]))]
  rfl
theorem SrtD.filter {L:List (Int×Int)} (h:SrtD L) (p:Int×Int→Bool):SrtD (L.filter p):=List.Pairwise.filter p h
/-! ### A record applied -/
theorem badSt_false {r:Rec}:badSt r=false↔mayRec r=true∧r.kind≠6∧(r.kind=3→gensMay r.bks=true):=by
 unfold badSt
 simp only [Bool.or_eq_false_iff,decide_eq_false_iff_not,Bool.and_eq_false_iff,Bool.not_eq_eq_eq_not,Bool.not_false]
 constructor
 ·rintro ⟨h1,h2,h3⟩
  refine⟨h1,h2,fun h=>?_⟩
  rcases h3 with h3 | h3
  ·exact absurd h h3
  ·exact h3
 ·rintro ⟨h1,h2,h3⟩
  refine⟨h1,h2,?_⟩
  by_cases h:r.kind=3
  ·exact Or.inr (h3 h)
  ·exact Or.inl h
theorem applySt_ok {s:StD} {r:Rec}:(applySt s r).2=0↔badSt r=false∧fullSt s r=false:=by
 unfold applySt
 cases badSt r <;> cases fullSt s r <;> simp
theorem applySt_do {s:StD} {r:Rec} (h:(applySt s r).2=0):(applySt s r).1=doSt s r:=by
 obtain⟨h1,h2⟩:=applySt_ok.1 h
 unfold applySt;rw [if_neg (by simp [h1]),if_neg (by simp [h2])]
theorem applySt_err {s:StD} {r:Rec} (h:(applySt s r).2≠0):(applySt s r).1=s:=by
 unfold applySt at h ⊢
 cases hb:badSt r <;> cases hf:fullSt s r <;> simp_all
theorem fullSt_F {s:StD} {r:Rec} (hk:r.kind=1) (h:fullSt s r=false):stHasF r.fl.t s.fls=true∨s.fls.length < 256:=by
 unfold fullSt at h;rw [if_pos hk] at h
 simp only [Bool.and_eq_false_iff,Bool.not_eq_false',decide_eq_false_iff_not] at h
 rcases h with h | h
 ·exact Or.inl h
 ·exact Or.inr (by omega)
theorem fullSt_D {s:StD} {r:Rec} (hk:r.kind=4) (h:fullSt s r=false):stHasD r.bk s.drs=true∨s.drs.length < 16:=by
 unfold fullSt at h;rw [if_neg (by omega),if_pos hk] at h
 simp only [Bool.and_eq_false_iff,Bool.not_eq_false',decide_eq_false_iff_not] at h
 rcases h with h | h
 ·exact Or.inl h
 ·exact Or.inr (by omega)
theorem OkSt.apply {s:StD} (h:OkSt s) {r:Rec} (wr:WfR r):OkSt (applySt s r).1:=by
 by_cases he:(applySt s r).2=0
 case neg=>rw [applySt_err he];exact h
 rw [applySt_do he]
 obtain⟨h1,h2⟩:=applySt_ok.1 he
 obtain⟨m1,m2,m3⟩:=badSt_false.1 h1
 rw [mayRec_iff] at m1
 obtain⟨a1,a2,a3,a4,a5,a6,a7,a8,a9,a10,a11⟩:=h
 rcases m1 with ⟨k,m⟩|⟨k,m⟩|⟨k,m,m',m''⟩|⟨k,m,m'⟩|⟨k,m⟩|⟨k,m⟩
 ·have e:doSt s r={ s with fls:=stPutF r.fl s.fls }:=by unfold doSt;rw [if_pos k]
  rw [e]
  refine⟨a1,a2,a3,a4,a5,a6,a7,stPutF_srt a8,fun f hf=>?_,fun f hf=>?_,?_⟩
  ·rcases stPutF_mem hf with rfl | hf
   ·exact wr.t
   ·exact a9 f hf
  ·rcases stPutF_mem hf with rfl | hf
   ·exact m
   ·exact a10 f hf
  ·rcases fullSt_F k h2 with hh | hh
   ·show (stPutF r.fl s.fls).length≤256
    rw [stPutF_eq a8 hh];exact a11
   ·have:=stPutF_le r.fl s.fls
    show (stPutF r.fl s.fls).length≤256
    omega
 ·have e:doSt s r={ s with fls:=stDelF r.fl.t s.fls }:=by unfold doSt;rw [if_neg (by omega),if_pos k]
  rw [e]
  exact⟨a1,a2,a3,a4,a5,a6,a7,a8.filter _,fun f hf=>a9 f ((List.mem_filter.1 hf).1),fun f hf=>a10 f ((List.mem_filter.1 hf).1),Nat.le_trans (List.length_filter_le _ _) a11⟩
 ·have e:doSt s r={ s with gen:=r.gen,bks:=r.bks }:=by unfold doSt;rw [if_neg (by omega),if_neg (by omega),if_pos k]
  rw [e]
  exact⟨m.1,m.2,m3 k,wr.addr,a5,a6,a7,a8,a9,a10,a11⟩
 ·have e:doSt s r={ s with drs:=stPutD r.bk r.till s.drs }:=by unfold doSt;rw [if_neg (by omega),if_neg (by omega),if_neg (by omega),if_pos k]
  rw [e]
  refine⟨a1,a2,a3,a4,stPutD_srt a5,fun d hd=>?_,?_,a8,a9,a10,a11⟩
  ·rcases stPutD_mem hd with rfl | hd
   ·exact⟨m,m'⟩
   ·exact a6 d hd
  ·rcases fullSt_D k h2 with hh | hh
   ·show (stPutD r.bk r.till s.drs).length≤16
    rw [stPutD_eq a5 hh];exact a7
   ·have:=stPutD_le r.bk r.till s.drs
    show (stPutD r.bk r.till s.drs).length≤16
    omega
 ·have e:doSt s r={ s with drs:=stDelD r.bk s.drs }:=by unfold doSt;rw [if_neg (by omega),if_neg (by omega),if_neg (by omega),if_neg (by omega),if_pos k]
  rw [e]
  exact⟨a1,a2,a3,a4,a5.filter _,fun d hd=>a6 d ((List.mem_filter.1 hd).1),Nat.le_trans (List.length_filter_le _ _) a7,a8,a9,a10,a11⟩
 ·omega
/-! ### A state made anew -/
theorem applyAll_app:∀ (a b:List Rec) (s:StD),applyAll (a++b) s=if (applyAll a s).2≠0 then applyAll a s else applyAll b (applyAll a s).1
 | [],b,s=>by simp [applyAll]
 | r::a,b,s=>by
  by_cases h:(applySt s r).2≠0
  ·have e1:applyAll (r::(a++b)) s=applySt s r:=if_pos h
   have e2:applyAll (r::a) s=applySt s r:=if_pos h
   rw [List.cons_append,e1,e2,if_pos h]
  ·have e1:applyAll (r::(a++b)) s=applyAll (a++b) (applySt s r).1:=if_neg h
   have e2:applyAll (r::a) s=applyAll a (applySt s r).1:=if_neg h
   rw [List.cons_append,e1,e2,applyAll_app a b]
theorem may_inBk {v:Int} {l:List Bk} (h:l.all mayBk=true):(l.map (inBk v)).all mayBk=true:=by
 simp only [List.all_eq_true,List.mem_map] at h ⊢
 rintro _ ⟨b,hb,rfl⟩
 exact inBk_may (h b hb)
theorem inBk_id (v:Int) (b:Bk):(inBk v b).id=b.id∧(inBk v b).addr=b.addr:=by unfold inBk;split <;> simp
theorem upId_in (v:Int):∀ l:List Bk,upId (l.map (inBk v))=upId l
 | []=>rfl
 | [a]=>rfl
 | a::b::r=>by
  have ih:=upId_in v (b::r)
  simp only [List.map_cons] at ih ⊢
  simp only [upId,(inBk_id v _).1,ih]
theorem gensMay_in {v:Int} {l:List Bk} (h:gensMay l=true):gensMay (l.map (inBk v))=true:=by
 simp only [gensMay,Bool.and_eq_true] at h ⊢
 exact⟨by simpa using h.1,may_inBk h.2.1,by rw [upId_in];exact h.2.2⟩
theorem gensMay_len {l:List Bk} (h:gensMay l=true):l.length≤16∧∀ b∈l,mayBk b=true:=by
 simp only [gensMay,Bool.and_eq_true,decide_eq_true_eq,List.all_eq_true] at h
 exact⟨h.1,h.2.1⟩
theorem apply_gen {s:StD} {g:Int} {l:List Bk} (h0:0≤g) (h1:g≤1000000) (h2:gensMay l=true) (r:Rec) (hk:r.kind=3) (hg:r.gen=g) (hb:r.bks=l):applySt s r=({ s with gen:=g,bks:=l },0):=by
 subst hg hb
 obtain⟨l1,l2⟩:=gensMay_len h2
 have hb:badSt r=false:=badSt_false.2 ⟨mayRec_iff.2 (Or.inr (Or.inr (Or.inl ⟨hk,⟨h0,h1⟩,l1,l2⟩))),by omega,fun _=>h2⟩
 have hf:fullSt s r=false:=by unfold fullSt;rw [if_neg (by omega),if_neg (by omega)]
 unfold applySt;rw [if_neg (by simp [hb]),if_neg (by simp [hf])]
 unfold doSt;rw [if_neg (by omega),if_neg (by omega),if_pos hk]
theorem apply_dr {s:StD} {b u:Int} (h0:0≤b∧b≤65535) (h1:0≤u∧u≤1099511627776) (hn:stHasD b s.drs=true∨s.drs.length < 16) (r:Rec) (hk:r.kind=4) (hb:r.bk=b) (hu:r.till=u):applySt s r=({ s with drs:=stPutD b u s.drs },0):=by
 subst hb hu
 have hbad:badSt r=false:=badSt_false.2 ⟨mayRec_iff.2 (Or.inr (Or.inr (Or.inr (Or.inl ⟨hk,h0,h1⟩)))),by omega,fun h=>by omega⟩
 have hf:fullSt s r=false:=by
  unfold fullSt;rw [if_neg (by omega),if_pos hk]
  rcases hn with hn | hn
  ·simp [hn]
  ·have:decide (16≤s.drs.length)=false:=decide_eq_false (by omega)
   rw [this];simp
 unfold applySt;rw [if_neg (by simp [hbad]),if_neg (by simp [hf])]
 unfold doSt;rw [if_neg (by omega),if_neg (by omega),if_neg (by omega),if_pos hk]
theorem apply_fl {s:StD} {f:Fl} (h:MayF f) (hn:stHasF f.t s.fls=true∨s.fls.length < 256) (r:Rec) (hk:r.kind=1) (hf:r.fl=f):applySt s r=({ s with fls:=stPutF f s.fls },0):=by
 subst hf
 have hbad:badSt r=false:=badSt_false.2 ⟨mayRec_iff.2 (Or.inl ⟨hk,h⟩),by omega,fun h=>by omega⟩
 have hf:fullSt s r=false:=by
  unfold fullSt;rw [if_pos hk]
  rcases hn with hn | hn
  ·simp [hn]
  ·have:decide (256≤s.fls.length)=false:=decide_eq_false (by omega)
   rw [this];simp
 unfold applySt;rw [if_neg (by simp [hbad]),if_neg (by simp [hf])]
 unfold doSt;rw [if_pos hk]
theorem all_dr {g:Rec→Rec} (hg:∀ d,(g (recDr d)).kind=4∧(g (recDr d)).bk=d.1∧(g (recDr d)).till=d.2):∀ (L:List (Int×Int)) (s:StD),SrtD (s.drs++L)→(∀ d∈L,(0≤d.1∧d.1≤65535)∧0≤d.2∧d.2≤1099511627776)→s.drs.length+L.length≤16 →
  applyAll ((L.map recDr).map g) s=({ s with drs:=s.drs++L },0)
 | [],s,_,_,_=>by simp [applyAll]
 | d::L,s,hs,hm,hl=>by
  obtain⟨g1,g2,g3⟩:=hg d
  obtain⟨m1,m2⟩:=hm d (by simp)
  have hlt:∀ x∈s.drs,x.1 < d.1:=fun x hx=>(List.pairwise_append.1 hs).2.2 x hx d (by simp)
  simp only [List.length_cons] at hl
  have e:=apply_dr (s:=s) m1 m2 (Or.inr (by omega)) (g (recDr d)) g1 g2 g3
  simp only [List.map_cons,applyAll]
  rw [e,if_neg (by simp)]
  have hp:stPutD d.1 d.2 s.drs=s.drs++[d]:=stPutD_last hlt
  have ih:=all_dr hg L { s with drs:=stPutD d.1 d.2 s.drs } (by show SrtD (stPutD d.1 d.2 s.drs++L);rw [hp,List.append_assoc];exact hs) (fun x hx=>hm x (by simp [hx])) (by show (stPutD d.1 d.2 s.drs).length+L.length≤16;rw [hp];simp;omega)
  rw [ih]
  show (({ s with drs:=stPutD d.1 d.2 s.drs++L }:StD),(0:Int))=_
  rw [hp,List.append_assoc];rfl
theorem all_fl {g:Rec→Rec} {p:Fl→Fl} (hg:∀ f,(g (recFl f)).kind=1∧(g (recFl f)).fl=p f) (hp:∀ f,(p f).t=f.t) (hpm:∀ f,MayF f→MayF (p f)):∀ (L:List Fl) (s:StD),SrtF (s.fls++L)→(∀ f∈L,MayF f)→s.fls.length+L.length≤256 →
  applyAll ((L.map recFl).map g) s=({ s with fls:=s.fls++L.map p },0)
 | [],s,_,_,_=>by simp [applyAll]
 | f::L,s,hs,hm,hl=>by
  obtain⟨g1,g2⟩:=hg f
  have hlt:∀ x∈s.fls,ltT x.t (p f).t=true:=fun x hx=>by rw [hp];exact (List.pairwise_append.1 hs).2.2 x hx f (by simp)
  simp only [List.length_cons] at hl
  have e:=apply_fl (s:=s) (hpm f (hm f (by simp))) (Or.inr (by omega)) (g (recFl f)) g1 g2
  simp only [List.map_cons,applyAll]
  rw [e,if_neg (by simp)]
  have hq:stPutF (p f) s.fls=s.fls++[p f]:=stPutF_last hlt
  have ih:=all_fl hg hp hpm L { s with fls:=stPutF (p f) s.fls } (by
   show SrtF (stPutF (p f) s.fls++L)
   rw [hq]
   unfold SrtF at hs ⊢
   rw [List.append_assoc,List.pairwise_append] at *
   refine⟨hs.1,?_,fun a ha b hb=>?_⟩
   ·rw [List.singleton_append,List.pairwise_cons] 
    have h2:=List.pairwise_cons.1 hs.2.1
    exact⟨fun b hb=>by rw [hp];exact h2.1 b hb,h2.2⟩
   ·rcases List.mem_append.1 hb with hb | hb
    ·simp at hb;subst hb;rw [hp];exact hs.2.2 a ha f (by simp)
    ·exact hs.2.2 a ha b (by simp [hb])) (fun x hx=>hm x (by simp [hx])) (by show (stPutF (p f) s.fls).length+L.length≤256;rw [hq];simp;omega)
  rw [ih]
  show (({ s with fls:=stPutF (p f) s.fls++L.map p }:StD),(0:Int))=_
  rw [hq,List.append_assoc];rfl
theorem all_recs {s:StD} (h:OkSt s) {g:Rec→Rec} {p:Fl→Fl} {q:List Bk→List Bk} (hg1:(g (recGen s)).kind=3∧(g (recGen s)).gen=s.gen∧(g (recGen s)).bks=q s.bks) (hq:gensMay (q s.bks)=true)
  (hg2:∀ d,(g (recDr d)).kind=4∧(g (recDr d)).bk=d.1∧(g (recDr d)).till=d.2) (hg3:∀ f,(g (recFl f)).kind=1∧(g (recFl f)).fl=p f) (hp:∀ f,(p f).t=f.t) (hpm:∀ f,MayF f→MayF (p f)) :
  applyAll ((recsSt s).map g) zeroSt=(⟨s.gen,q s.bks,s.drs,s.fls.map p⟩,0):=by
 have e1:=apply_gen (s:=zeroSt) h.g0 h.g1 hq (g (recGen s)) hg1.1 hg1.2.1 hg1.2.2
 unfold recsSt
 rw [List.map_cons,List.map_append]
 simp only [applyAll]
 rw [e1,if_neg (by simp),applyAll_app]
 have e2:=all_dr hg2 s.drs { zeroSt with gen:=s.gen,bks:=q s.bks } (by simpa [zeroSt] using h.dsort) h.dmay (by simpa [zeroSt] using h.dlen)
 rw [e2,if_neg (by simp)]
 have e3:=all_fl hg3 hp hpm s.fls { zeroSt with gen:=s.gen,bks:=q s.bks,drs:=([]:List (Int×Int))++s.drs } (by simpa [zeroSt] using h.fsort) h.fmay (by simpa [zeroSt] using h.flen)
 rw [show (zeroSt.drs:List (Int×Int))=[] from rfl]
 simp only
 rw [e3]
 simp [zeroSt]
theorem ofSt_ok {s:StD} (h:OkSt s):ofSt s=(some s,0):=by
 have e:=all_recs h (g:=id) (p:=id) (q:=id) ⟨rfl,rfl,rfl⟩ h.bks (fun d=>⟨rfl,rfl,rfl⟩) (fun f=>⟨rfl,rfl⟩) (fun f=>rfl) (fun f hf=>hf)
 simp only [List.map_id,id] at e
 have e':applyAll (recsSt s) zeroSt=(s,0):=e
 unfold ofSt
 rw [e'];simp
theorem WfR.recs {s:StD} (h:OkSt s):∀ r∈recsSt s,WfR r∧mayRec r=true∧r.kind≠6:=by
 intro r hr
 have z:WfT zeroT:=⟨by decide,by decide,by decide,by decide,by decide,by decide,by decide,by decide,by decide,by decide⟩
 simp only [recsSt,List.mem_cons,List.mem_append,List.mem_map] at hr
 rcases hr with rfl | ⟨d,hd,rfl⟩|⟨f,hf,rfl⟩
 ·obtain⟨l1,l2⟩:=gensMay_len h.bks
  exact⟨⟨z,h.addr⟩,mayRec_iff.2 (Or.inr (Or.inr (Or.inl ⟨rfl,⟨h.g0,h.g1⟩,l1,l2⟩))),by simp [recGen]⟩
 ·exact⟨⟨z,by simp [recDr]⟩,mayRec_iff.2 (Or.inr (Or.inr (Or.inr (Or.inl ⟨rfl,h.dmay d hd⟩)))),by simp [recDr]⟩
 ·exact⟨⟨h.fwf f hf,by simp [recFl]⟩,mayRec_iff.2 (Or.inl ⟨rfl,h.fmay f hf⟩),by simp [recFl]⟩
/-! ### A log read -/
theorem rdAll_app:∀ (a b:List FrD) (s:StD),rdAll (a++b) s=if (rdAll a s).2≠0 then rdAll a s else rdAll b (rdAll a s).1
 | [],b,s=>by simp [rdAll]
 | r::a,b,s=>by
  by_cases h:(rdFr s r).2≠0
  ·have e1:rdAll (r::(a++b)) s=rdFr s r:=if_pos h
   have e2:rdAll (r::a) s=rdFr s r:=if_pos h
   rw [List.cons_append,e1,e2,if_pos h]
  ·have e1:rdAll (r::(a++b)) s=rdAll (a++b) (rdFr s r).1:=if_neg h
   have e2:rdAll (r::a) s=rdAll a (rdFr s r).1:=if_neg h
   rw [List.cons_append,e1,e2,rdAll_app a b]
theorem apply_in {s:StD} {r:Rec} {v:Int} (hv:verOk v=true) (h:(applySt s r).2=0):(applySt s (inRec r v)).2=0:=by
 obtain⟨h1,h2⟩:=applySt_ok.1 h
 obtain⟨m1,m2,m3⟩:=badSt_false.1 h1
 have hk:=inRec_kind (r:=r) hv
 have e:inRec r v=⟨(plainRec r).kind,if r.kind=1 then inFl v (plainRec r).fl else (plainRec r).fl,(plainRec r).gen,(plainRec r).bks.map (inBk v),(plainRec r).bk,(plainRec r).till,(plainRec r).count⟩:=if_neg (by simp [hv])
 refine applySt_ok.2 ⟨badSt_false.2 ⟨inRec_may hv m1,by rw [hk];exact m2,fun hk3=>?_⟩,?_⟩
 ·rw [hk] at hk3
  rw [e];simp [plainRec,hk3];exact gensMay_in (m3 hk3)
 ·unfold fullSt at h2 ⊢
  rw [hk]
  by_cases k1:r.kind=1
  ·rw [if_pos k1] at h2 ⊢
   rw [e];simp only [if_pos k1,plainRec];exact h2
  ·rw [if_neg k1] at h2 ⊢
   by_cases k4:r.kind=4
   ·rw [if_pos k4] at h2 ⊢
    rw [e];simp [plainRec,k4];simpa using h2
   ·rw [if_neg k4]
theorem rdFr_enc {s:StD} {r:Rec} {v:Int} (wr:WfR r) (hv:verOk v=true) (hm:mayRec r=true) (h6:r.kind≠6):rdFr s (encRec r v).1=applySt s (inRec r v):=by
 obtain⟨_,e⟩:=dec_enc wr hv hm
 unfold rdFr
 rw [e]
 have:¬ ((0:Int)≠0∨(inRec r v).kind=6):=by rw [inRec_kind hv];simp [h6]
 rw [if_neg this]
def CrcRel (bs:List UInt8) (c k:Value):Prop:=∃ i:Nat,i≤bs.length∧k=.int .i64 i∧c=.int .u32 (crcFrom 0xffffffff (bs.take i))
def BitRel (c0:Nat) (c k:Value):Prop:=∃ j:Nat,j≤8∧k=.int .i64 j∧c=.int .u32 (crcBits j c0)
theorem bits_xor_u32 (a b:Nat) (ha:a < 4294967296) (hb:b < 4294967296):bits .xor .u32 (a:Int) (b:Int)=((a ^^^ b:Nat):Int):=by
 have hx:a ^^^ b < 2 ^ 32:=Nat.xor_lt_two_pow (by omega) (by omega)
 have h1:(BitVec.ofInt 32 (a:Int)).toNat=a:=by
  rw [BitVec.ofInt_natCast,BitVec.toNat_ofNat];exact Nat.mod_eq_of_lt (by omega)
 have h2:(BitVec.ofInt 32 (b:Int)).toNat=b:=by
  rw [BitVec.ofInt_natCast,BitVec.toNat_ofNat];exact Nat.mod_eq_of_lt (by omega)
 show IntKind.u32.wrap ((BitVec.ofInt 32 (a:Int) ^^^ BitVec.ofInt 32 (b:Int)).toNat:Int)=_
 rw [BitVec.toNat_xor,h1,h2]
 rw [show ∀ n,IntKind.u32.wrap n=n % 4294967296 from fun n=>by simp [IntKind.wrap,IntKind.bits,IntKind.signed]]
 omega
theorem bits_and_u32 (a b:Nat) (ha:a < 4294967296) (hb:b < 4294967296):bits .and .u32 (a:Int) (b:Int)=((a &&& b:Nat):Int):=by
 have hx:a &&& b < 2 ^ 32:=Nat.and_lt_two_pow _ (by omega)
 have h1:(BitVec.ofInt 32 (a:Int)).toNat=a:=by
  rw [BitVec.ofInt_natCast,BitVec.toNat_ofNat];exact Nat.mod_eq_of_lt (by omega)
 have h2:(BitVec.ofInt 32 (b:Int)).toNat=b:=by
  rw [BitVec.ofInt_natCast,BitVec.toNat_ofNat];exact Nat.mod_eq_of_lt (by omega)
 show IntKind.u32.wrap ((BitVec.ofInt 32 (a:Int) &&& BitVec.ofInt 32 (b:Int)).toNat:Int)=_
 rw [BitVec.toNat_and,h1,h2]
 rw [show ∀ n,IntKind.u32.wrap n=n % 4294967296 from fun n=>by simp [IntKind.wrap,IntKind.bits,IntKind.signed]]
 omega
theorem and_one {c:Nat} (hc:c < 4294967296):bits .and .u32 (c:Int) 1=((c % 2:Nat):Int):=by
 have:=bits_and_u32 c 1 hc (by omega)
 rw [Nat.and_one_is_mod] at this
 exact this
theorem xor_poly {c:Nat} (hc:c < 4294967296):bits .xor .u32 ((c:Int) / 2) 2197175160=((c / 2 ^^^ 0x82f63b78:Nat):Int):=by
 have:=bits_xor_u32 (c / 2) 0x82f63b78 (by omega) (by omega)
 rwa [show (((c / 2:Nat):Nat):Int)=(c:Int) / 2 by omega] at this
theorem crc_call {w:World} {A:Option Addr} {bs:List UInt8} {c:Nat} (h:Src w A bs.length 1 (u8s bs)) (hl:bs.length≤100000000) :
  Calls Tryz.prog 125 #[.slice A bs.length c] w fun e w'=>e=.returned (.int .u32 (crc bs))∧w'=w:=by
 have H:=Lib.hid h
 clear h
 go_enter Tryz.func125,Tryz.ntmps125
 go_wp2_with fail
 go_loop [3,9] (CrcRel bs) (fun _ k=>bs.length - (intOf k).toNat)
 case atStart=>exact⟨0,Nat.zero_le _,rfl,rfl⟩
 case round=>
  obtain⟨i,hi,rfl,rfl⟩:=hrel
  have hc32:=crcFrom_lt (bs.take i) (c:=0xffffffff) (by omega)
  by_cases hlt:i < bs.length
  ·obtain⟨x,hx⟩:∃ x,bs[i]?=some x:=⟨bs[i],List.getElem?_eq_getElem hlt⟩
   obtain⟨ad,rfl,hc⟩:=H.out.at' (by omega)
   have c0:=hc i (.int .u8 x.toNat) (by simp [u8s,hx])
   have hlt':(i:Int) < (bs.length:Int):=by omega
   have HX:Hid (crcFrom 0xffffffff (bs.take (i+1))=crcBits 8 (crcFrom 0xffffffff (bs.take i) ^^^ x.toNat)):=Lib.hid (by
    rw [List.take_add_one,hx];exact crcFrom_snoc _ _ _)
   have hq:=bits_xor_u32 _ x.toNat hc32 (by have:=x.toNat_lt;omega)
   have hb:crcFrom 0xffffffff (bs.take i) ^^^ x.toNat < 4294967296:=xor_lt32 hc32 (by have:=x.toNat_lt;omega)
   have hxl:=x.toNat_lt
   clear hx hc
   generalize crcFrom 0xffffffff (bs.take i)=c0' at *
   generalize (x.toNat)=xn at *
   go_wp2_with fail
   go_loop [3,17] (BitRel (c0' ^^^ xn)) (fun _ k=>8 - (intOf k).toNat)
   case atStart=>exact⟨0,by omega,rfl,by simp [crcBits]⟩
   case round=>
    obtain⟨j,hj,rfl,rfl⟩:=hrel
    have hcb:=crcBits_lt j hb
    have HS:=Lib.hid (crcBits_succ j (c0' ^^^ xn))
    clear hq
    by_cases hjl:j < 8
    ·have q1:=and_one hcb
     have q2:=xor_poly hcb
     generalize crcBits j (c0' ^^^ xn)=cj at *
     have hjl':(j:Int) < 8:=by omega
     by_cases h2:cj % 2=1
     ·have HB:Hid (crcBit cj=(cj / 2) ^^^ 0x82f63b78):=Lib.hid (by rw [crcBit,if_pos h2])
      have q3:(((cj % 2:Nat):Int) == 1)=true:=by rw [h2];rfl
      clear h2
      go_wp2_with fail
      go_round
      case rel=>exact⟨j+1,by omega,by go_num,by rw [HS.out,HB.out]⟩
      case measure=>simp [intOf];omega
     ·have HB:Hid (crcBit cj=cj / 2):=Lib.hid (by rw [crcBit,if_neg h2])
      have q3:(((cj % 2:Nat):Int) == 1)=false:=by rw [beq_eq_false_iff_ne];omega
      clear h2
      go_wp2_with fail
      go_round
      case rel=>exact⟨j+1,by omega,by go_num,by rw [HS.out,HB.out];simp⟩
      case measure=>simp [intOf];omega
    ·obtain rfl:j=8:=by omega
     go_wp2_with fail
     go_round
     case rel=>exact⟨i+1,by omega,by go_num,by rw [HX.out]⟩
     case measure=>simp [intOf];omega
  ·have hil:i=bs.length:=by omega
   subst hil
   have hq:=bits_xor_u32 4294967295 (crcFrom 0xffffffff (bs.take bs.length)) (by omega) hc32
   have HE:Hid (crc bs=crcFrom 0xffffffff (bs.take bs.length) ^^^ 4294967295):=Lib.hid (by rw [List.take_length];rfl)
   have hb:=crcFrom_lt (bs.take bs.length) (c:=0xffffffff) (by omega)
   generalize crcFrom 0xffffffff (bs.take bs.length)=cc at *
   go_wp2_with fail
   go_ret
   refine⟨?_,rfl⟩
   rw [HE.out]
   show Ending.returned (.int .u32 (bits .xor .u32 IntKind.u32.max (cc:Int)))=_
   rw [show IntKind.u32.max=((4294967295:Nat):Int) by rfl,hq,Nat.xor_comm]
end Go.Proofs.YtpmmiljakbojaaaGreat
