/- What is proved here: contracts of the program's functions, and plain laws, on which the proofs of StoreSure and CompactBreaks rest; without conditions. -/
import Derived.Test.YtogclkhpbjfadaaGreatCB6
import Derived.Test.YtogclkhpbjfadaaGreatCB11
import Derived.Test.YtogclkhpbjfadaaGreatCB5
namespace Go.Proofs.YtogclkhpbjfadaaGreat
open Go.RowKit
set_option linter.unusedVariables false
set_option maxHeartbeats 64000000
set_option maxRecDepth 100000
structure StoreD where
 l:LogD
 st:StD
 sure:StD
abbrev SD:=DiskD×StoreD
def peekS (d:DiskD):Int×Int:=
 match dRead d nmHead with
 | none=>(0,6)
 | some b=>(((manDec b).1.ver:Int),(manDec b).2)
def createS (v size:Int) (d:DiskD):DiskD×Option StoreD×Int:=
 match (createD v size d).2.1 with
 | none=>((createD v size d).1,none,(createD v size d).2.2)
 | some l=>((createD v size d).1,some ⟨l,zeroSt,zeroSt⟩,0)
/-! ### Names of segments,read -/
def isDig (x:UInt8):Bool:=decide (48≤x.toNat∧x.toNat≤57)
def digN (l:List UInt8):Nat:=l.foldl (fun n x=>n * 10+(x.toNat - 48)) 0
def numD (n:ByteArray):Option Nat:=
 match n.data.toList with
 | h::t=>if h=115∧t.length=6∧t.all isDig=true∧0 < digN t then some (digN t) else none
 | []=>none
theorem digN_snoc (l:List UInt8) (x:UInt8):digN (l++[x])=digN l * 10+(x.toNat - 48):=by simp [digN]
theorem dig_of {x:UInt8} {n k:Nat} (hx:isDig x=true) (h:n / 10 ^ k % 10=x.toNat - 48):dig n k=x:=by
 simp only [isDig,decide_eq_true_eq] at hx
 unfold dig
 rw [h]
 apply UInt8.toNat.inj
 rw [UInt8.toNat_ofNat']
 omega
theorem numD_seg {n:ByteArray} {k:Nat} (h:numD n=some k):n=segName k∧1≤k∧k < 1000000:=by
 unfold numD at h
 rcases e:n.data.toList with _ | ⟨x,t⟩
 ·rw [e] at h;simp at h
 ·rw [e] at h
  simp only at h
  split at h
  ·rename_i hc
   obtain⟨rfl,hl,hd,h0⟩:=hc
   injection h with h
   subst h
   match t,hl,hd,h0,e with
   | [a,b,c,d,e',f],_,hd,h0,e=>
    simp only [List.all_cons,List.all_nil,Bool.and_true,Bool.and_eq_true] at hd
    obtain⟨ha,hb,hc,hd',he,hf⟩:=hd
    have q:digN [a,b,c,d,e',f]=(((((a.toNat - 48) * 10+(b.toNat - 48)) * 10+(c.toNat - 48)) * 10+(d.toNat - 48)) * 10+(e'.toNat - 48)) * 10+(f.toNat - 48):=by simp [digN]
    have la:=ha;have lb:=hb;have lc:=hc;have ld:=hd';have le:=he;have lf:=hf
    simp only [isDig,decide_eq_true_eq] at la lb lc ld le lf
    have hlt:digN [a,b,c,d,e',f] < 1000000:=by omega
    refine⟨?_,h0,hlt⟩
    rw [segName_val ⟨h0,hlt⟩]
    have d5:=dig_of (n:=digN [a,b,c,d,e',f]) (k:=5) ha (by rw [q];omega)
    have d4:=dig_of (n:=digN [a,b,c,d,e',f]) (k:=4) hb (by rw [q];omega)
    have d3:=dig_of (n:=digN [a,b,c,d,e',f]) (k:=3) hc (by rw [q];omega)
    have d2:=dig_of (n:=digN [a,b,c,d,e',f]) (k:=2) hd' (by rw [q];omega)
    have d1:=dig_of (n:=digN [a,b,c,d,e',f]) (k:=1) he (by rw [q];omega)
    have d0:=dig_of (n:=digN [a,b,c,d,e',f]) (k:=0) hf (by rw [q];omega)
    rw [d5,d4,d3,d2,d1,d0]
    cases n with
    | mk data=>simp only at e;rw [← e]
  ·cases h
/-! ### What is no part of the log goes -/
def dirtyD (l:LogD) (n:ByteArray):Bool:=decide (n=nmFresh) || (match numD n with | some k=>!l.m.segs.contains k | none=>false)
def cleanD (l:LogD):List ByteArray→DiskD→DiskD
 | [],d=>d
 | n::r,d=>cleanD l r (if dirtyD l n=true then (dRemove d n).1 else d)
theorem cleanD_snoc (l:LogD):∀ (L:List ByteArray) (n:ByteArray) (d:DiskD),cleanD l (L++[n]) d=if dirtyD l n=true then (dRemove (cleanD l L d) n).1 else cleanD l L d
 | [],n,d=>rfl
 | x::r,n,d=>cleanD_snoc l r n _
theorem dirty_not {l:LogD} {n:ByteArray} (hm:∀ s∈l.m.segs,1≤s∧s < 1000000) (h:dirtyD l n=true):¬ Mine l.m.segs n:=by
 unfold dirtyD at h
 simp only [Bool.or_eq_true,decide_eq_true_eq] at h
 rcases h with h | h
 ·rw [h];exact mine_fresh
 ·cases e:numD n with
  | none=>rw [e] at h;cases h
  | some k=>
   rw [e] at h
   simp only [Bool.not_eq_true',List.contains_eq_mem,decide_eq_false_iff_not] at h
   obtain⟨rfl,hk⟩:=numD_seg e
   exact mine_not hm h
theorem clean_firm {l:LogD} {Fr:List FrD} {s:Nat}:∀ (L:List ByteArray) (d:DiskD),Firm d l.m Fr s→Firm (cleanD l L d) l.m Fr s
 | [],_,h=>h
 | n::r,d,h=>by
  refine clean_firm r _ ?_
  split
  ·rename_i hd
   exact h.other (fun _ h=>h) (Other.remove h.ok (dirty_not h.valid hd)) (dRemove_ok h.ok n)
  ·exact h
theorem clean_ops (l:LogD):∀ (L:List ByteArray) (d:DiskD),(cleanD l L d).ops≤d.ops+L.length
 | [],d=>Nat.le_refl _
 | n::r,d=>by
  have h1:=clean_ops l r (if dirtyD l n=true then (dRemove d n).1 else d)
  have h2:(if dirtyD l n=true then (dRemove d n).1 else d).ops≤d.ops+1:=by
   split
   ·have:=(dOps d n n [] 0).2.2.2.2.1;omega
   ·omega
  show (cleanD l r _).ops≤d.ops+(r.length+1)
  omega
/-! ### The store's calls -/
def openS (ver size:Int) (d:DiskD):DiskD×Option StoreD×Int:=
 if (peekS d).2≠0 then (d,none,(peekS d).2)
 else if ver < (peekS d).1∨3 < ver then (d,none,10)
 else match (openL rdFr size d zeroSt).2.2.1 with
  | none=>((openL rdFr size d zeroSt).2.1,none,(openL rdFr size d zeroSt).2.2.2)
  | some l=>(cleanD l (dNames (openL rdFr size d zeroSt).2.1) (openL rdFr size d zeroSt).2.1,some ⟨l,(openL rdFr size d zeroSt).1,(openL rdFr size d zeroSt).1⟩,0)
def writeE (r:Rec) (s:SD):FrD×Int:=encRec r s.2.l.m.ver
def writeA (r:Rec) (s:SD):DL×Int:=appendL (writeE r s).1.kind (writeE r s).1.body (s.1,s.2.l)
def writeS (r:Rec) (s:SD):SD×Int:=
 if mayRec r=false∨r.kind=6 then (s,1)
 else if (applySt s.2.st r).2≠0 then (s,(applySt s.2.st r).2)
 else if (writeE r s).2≠0 then (s,(writeE r s).2)
 else if (writeA r s).2≠0 then (((writeA r s).1.1,⟨(writeA r s).1.2,s.2.st,s.2.sure⟩),(writeA r s).2)
 else (((writeA r s).1.1,⟨(writeA r s).1.2,(applySt s.2.st (inRec r (writeA r s).1.2.m.ver)).1,s.2.sure⟩),(applySt s.2.st (inRec r (writeA r s).1.2.m.ver)).2)
def syncS (s:SD):SD×Int:=
 (((syncL (s.1,s.2.l)).1.1,⟨(syncL (s.1,s.2.l)).1.2,s.2.st,if (syncL (s.1,s.2.l)).2=0 then s.2.st else s.2.sure⟩),(syncL (s.1,s.2.l)).2)
def rowsS (ver:Int) (st:StD):List FrD:=(recsSt st).map (fun r=>(encRec r ver).1)
def swapA (ver:Int) (st:StD) (s:SD):DL×Int:=swapL ver.toNat ((rowsS ver st).map frBytes) (s.1,s.2.l)
def swapS (ver:Int) (st:StD) (s:SD):SD×Int:=
 if ver < s.2.l.m.ver∨3 < ver then (s,10)
 else (((swapA ver st s).1.1,⟨(swapA ver st s).1.2,if s.2.l.m.segs=(swapA ver st s).1.2.m.segs then s.2.st else inSt ver st,if (swapA ver st s).2=0 then inSt ver st else s.2.sure⟩),(swapA ver st s).2)
/-! ### Laws of the parts -/
theorem WfR.inRec {r:Rec} (h:WfR r) (v:Int):WfR (inRec r v):=by
 have hz:WfT zeroT:=by constructor <;> decide
 have ht:WfT (plainRec r).fl.t:=by
  unfold plainRec
  split
  ·exact h.t
  ·split
   ·exact h.t
   ·repeat' split
    all_goals exact hz
 have ha:∀ b∈(plainRec r).bks,0≤b.addr∧b.addr < 4294967296:=by
  unfold plainRec
  repeat' split
  all_goals first | exact h.addr | (intro b hb;simp at hb)
 unfold Go.Proofs.YtogclkhpbjfadaaGreat.inRec
 split
 ·exact⟨hz,by simp [zeroRec]⟩
 ·refine⟨?_,?_⟩
  ·simp only
   split
   ·exact ht
   ·exact ht
  ·intro b hb
   simp only [List.mem_map] at hb
   obtain⟨x,hx,rfl⟩:=hb
   rw [(inBk_id v x).2];exact ha x hx
theorem settle_loose {d:DiskD} {l:LogD} (h:(settleL (d,l)).1.2.loose=true):l.loose=true:=by
 unfold settleL at h
 simp only at h
 split at h
 ·assumption
 ·exact h
theorem sync_loose {d:DiskD} {l:LogD} (h:(syncL (d,l)).1.2.loose=true):l.loose=true:=by
 unfold syncL thenD onDisk at h
 split at h
 ·exact settle_loose h
 ·exact settle_loose h
theorem append_loose {d:DiskD} {l:LogD} {Fr Fr0:List FrD} {s s0:Nat} (h:LogInv d l Fr s Fr0 s0) (kind:Int) (body:List UInt8) (hl:(appendL kind body (d,l)).1.2.loose=true) (hn:l.loose=true→Fr≠[]):Fr≠[]:=by
 by_cases h0:l.loose=true
 ·exact hn h0
 have hl0:l.loose=false:=by cases e:l.loose <;> simp_all
 intro hFr
 subst hFr
 have hset:settleL (d,l)=((d,l),0):=by unfold settleL;simp [hl0]
 have hb:bytesD d (lastS l)=0:=by
  obtain⟨C,L,k,g1,g2,g3⟩:=h.now.2.2
  have hL:L=[]:=by
   have:=congrArg List.length g2
   simp at this
   exact List.eq_nil_of_length_eq_zero (by omega)
  have hr:=g1.last.read
  rw [← lastS_eq g1.len] at hr
  unfold bytesD
  rw [hr,hL];rfl
 unfold appendL at hl
 simp only at hl
 split at hl
 ·simp [hl0] at hl
 ·rw [hset,thenD_ok (r:=((d,l),(0:Int))) rfl] at hl
  simp only at hl
  rw [if_pos (by unfold fitsL;simp [hb])] at hl
  rw [thenD_ok (r:=((d,l),(0:Int))) rfl] at hl
  unfold onDisk at hl
  simp [hl0] at hl
theorem swap_inv2 {d:DiskD} {l:LogD} {Fr Fr0:List FrD} {s s0:Nat} (h:LogInv d l Fr s Fr0 s0) (ver:Nat) (R:List FrD) (hR:∀ f∈R,FrOk f∧f.ver=ver) :
  (swapL ver (R.map frBytes) (d,l)).1.2.size=l.size ∧
  (((swapL ver (R.map frBytes) (d,l)).2=0∧(swapL ver (R.map frBytes) (d,l)).1.2.loose=false∧(swapL ver (R.map frBytes) (d,l)).1.2.m.ver=ver∧l.m.segs≠(swapL ver (R.map frBytes) (d,l)).1.2.m.segs∧Firm (swapL ver (R.map frBytes) (d,l)).1.1 (swapL ver (R.map frBytes) (d,l)).1.2.m R R.length) ∨
    ((swapL ver (R.map frBytes) (d,l)).2≠0∧(((swapL ver (R.map frBytes) (d,l)).1.2.m=l.m∧((swapL ver (R.map frBytes) (d,l)).1.2.loose=true→l.loose=true)∧LogInv (swapL ver (R.map frBytes) (d,l)).1.1 (swapL ver (R.map frBytes) (d,l)).1.2 Fr s Fr0 s0) ∨
    ((swapL ver (R.map frBytes) (d,l)).1.2.m.ver=ver∧l.m.segs≠(swapL ver (R.map frBytes) (d,l)).1.2.m.segs∧LogInv (swapL ver (R.map frBytes) (d,l)).1.1 (swapL ver (R.map frBytes) (d,l)).1.2 R R.length Fr s)))):=by
 unfold swapL
 simp only
 have h1:=settle_inv h
 have hsl:=settle_loose (d:=d) (l:=l)
 generalize settleL (d,l)=r at *
 rcases h1 with ⟨h2,h3,h4⟩|⟨h2,h3,h4⟩
 case inr=>
  rw [if_pos h2,h3]
  exact⟨rfl,Or.inr ⟨h2,Or.inl ⟨rfl,fun e=>e,h4⟩⟩⟩
 rw [if_neg (by simp [h2])]
 obtain⟨⟨d1,l1⟩,e1⟩:=r
 simp only at h2 h3 h4 ⊢
 subst h3
 have hv:=h4.valid
 have hlt:∀ x∈l.m.segs,x < l.m.next:=fun x hx=>(mayM_seg h4.now.1 hx).2.1
 have hne0:l.m.segs≠[]:=fun e=>by have:=(mayM_iff.1 h4.now.1).1.2.2.1;rw [e] at this;simp at this
 have hn1:1≤l.m.next:=(mayM_iff.1 h4.now.1).1.2.2.2.2.1
 have h5:=lay_laid (l:=⟨l.size,l.m,false⟩) h4.ok h4.now.1 R hR
 simp only at h5
 generalize layD ⟨l.size,l.m,false⟩ (R.map frBytes) d1=r2 at *
 have hdrop:∀ (d2:DiskD),Beside d1 l.m r2.1→Firm d2 l.m Fr s→Firm (dropD r2.1.2.1 d2) l.m Fr s:=fun d2 hb hf=>by
  obtain⟨o1,k1⟩:=drop_other (K:=Mine l.m.segs) r2.1.2.1 d2 hf.ok (fun x hx=>mine_not hv (fun hm=>by have:=hlt _ hm;have:=hb.mem hx;omega))
  exact hf.other (fun _ hn=>hn) o1 k1
 rcases h5 with ⟨q1,q2,q3⟩|⟨q1,q2⟩
 case inr=>
  rw [if_pos q1]
  exact⟨rfl,Or.inr ⟨q1,Or.inl ⟨rfl,(fun e=>by cases e),Or.inl ⟨rfl,hdrop _ q2 (h4.other (fun _ hn=>hn) q2.other q2.ok)⟩⟩⟩⟩
 rw [if_neg (by simp [q1])]
 have f3:=h4.other (fun _ hn=>hn) q2.beside.other q2.beside.ok
 have hS:HoldsS r2.1.1.now r2.1.1.files (swapIn ver ⟨l.size,l.m,false⟩ r2.1.2.1).segs (swapIn ver ⟨l.size,l.m,false⟩ r2.1.2.1).ver R R.length:=by
  rcases q2.held with ⟨e,_⟩|⟨C,L,k,g1,rfl,g3,g4⟩
  ·exact absurd e q3
  ·exact⟨C,L,k,g1,rfl,by rw [List.length_append];have:=g4 rfl;omega⟩
 have hc:=commit_firm f3 hS
 unfold adoptL
 simp only
 have hbb:=q2.beside
 have hsne:l.m.segs≠r2.1.2.1:=fun e=>by
  obtain⟨x,hx⟩:=List.exists_mem_of_ne_nil _ hne0
  have g1:=hlt x hx
  rw [e] at hx
  have g2:=hbb.mem hx
  (try simp only at g2)
  omega
 generalize hm':swapIn ver ⟨l.size,l.m,false⟩ r2.1.2.1=m' at *
 have hsegs:m'.segs=r2.1.2.1:=by rw [← hm'];rfl
 have hver:m'.ver=ver:=by rw [← hm'];rfl
 generalize commitD m' r2.1.1=r3 at *
 rcases hc with ⟨b1,b2,b3⟩|⟨b1,b2,b3,b4⟩|⟨b1,b2,b3⟩
 ·rw [if_neg b2,if_neg (by rw [b1];simp),if_neg (by rw [b1];simp)]
  exact⟨rfl,Or.inr ⟨b2,Or.inl ⟨rfl,(fun e=>by cases e),Or.inl ⟨rfl,hdrop _ hbb b3⟩⟩⟩⟩
 ·rw [if_pos b2,if_pos b1]
  obtain⟨o1,k1⟩:=remove_other (K:=Mine m'.segs) l.m.segs r3.1 b4.ok (fun x hx=>mine_not b4.valid (fun hm=>by rw [hsegs] at hm;have:=hlt _ hx;have:=hbb.mem hm;omega))
  exact⟨rfl,Or.inl ⟨rfl,by simp [b2],hver,by rw [hsegs];exact hsne,b4.other (fun _ hn=>hn) o1 k1⟩⟩
 ·rw [if_neg b2,if_pos b1,if_pos b1]
  exact⟨rfl,Or.inr ⟨b2,Or.inr ⟨hver,by rw [hsegs];exact hsne,Or.inr ⟨by simp [b2],b3⟩⟩⟩⟩
/-! ### What holds of it -/
theorem tellAll_rd {ver:Nat}:∀ (l:List FrD) (s:StD),(∀ f∈l,f.ver=ver)→tellAll rdFr ver l s=rdAll l s
 | [],s,_=>rfl
 | f::r,s,h=>by
  show (if f.ver≠ver then (s,3) else if (rdFr s f).2≠0 then rdFr s f else tellAll rdFr ver r (rdFr s f).1)=if (rdFr s f).2≠0 then rdFr s f else rdAll r (rdFr s f).1
  rw [if_neg (by simp [h f (by simp)]),tellAll_rd r _ (fun x hx=>h x (List.mem_cons_of_mem _ hx))]
structure SoInv (s:SD) (Fr:List FrD) (k:Nat) (Fr0:List FrD) (k0:Nat):Prop where
 log:LogInv s.1 s.2.l Fr k Fr0 k0
 st:rdAll Fr zeroSt=(s.2.st,0)
 ok:OkSt s.2.st
 oks:OkSt s.2.sure
 ne:s.2.l.loose=true→Fr≠[]
theorem SoInv.ver {s:SD} {Fr:List FrD} {k:Nat} {Fr0:List FrD} {k0:Nat} (h:SoInv s Fr k Fr0 k0):verOk (s.2.l.m.ver:Int)=true:=by
 have:=h.log.now.1
 have:=(mayM_iff.1 this).1
 unfold verOk;simp;omega
theorem SoInv.write {s:SD} {Fr:List FrD} {k:Nat} {Fr0:List FrD} {k0:Nat} (h:SoInv s Fr k Fr0 k0) {r:Rec} (wr:WfR r) :
  (writeS r s).1.2.l.size=s.2.l.size∧(writeS r s).1.2.l.m.ver=s.2.l.m.ver∧(writeS r s).1.2.sure=s.2.sure ∧
  (((writeS r s).2=0∧∃ f,SoInv (writeS r s).1 (Fr++[f]) k (Fr++[f]) k∧(writeS r s).1.2.l.loose=false) ∨
    ((writeS r s).2≠0∧(writeS r s).1.2.st=s.2.st∧(SoInv (writeS r s).1 Fr k Fr0 k0∨SoInv (writeS r s).1 Fr k Fr k))):=by
 have hv:=h.ver
 unfold writeS
 by_cases c1:mayRec r=false∨r.kind=6
 ·rw [if_pos c1];exact⟨rfl,rfl,rfl,Or.inr ⟨by simp,rfl,Or.inl h⟩⟩
 rw [if_neg c1]
 have hm:mayRec r=true:=by cases e:mayRec r <;> simp_all
 have h6:r.kind≠6:=fun e=>c1 (Or.inr e)
 by_cases c2:(applySt s.2.st r).2=0
 case neg=>rw [if_pos c2];exact⟨rfl,rfl,rfl,Or.inr ⟨c2,rfl,Or.inl h⟩⟩
 rw [if_neg (by simp [c2])]
 have he:=dec_enc wr hv hm
 have c3:(writeE r s).2=0:=he.1
 rw [if_neg (by simp [c3])]
 have hfr:=rdFr_enc (s:=s.2.st) wr hv hm h6
 have hai:=apply_in (s:=s.2.st) hv c2
 have hok:=enc_ok (r:=r) (v:=s.2.l.m.ver) he.1
 have ha:=append_inv h.log ((writeE r s).1.kind:Int) (writeE r s).1.body
 rw [show appendL ((writeE r s).1.kind:Int) (writeE r s).1.body (s.1,s.2.l)=writeA r s from rfl] at ha
 obtain⟨a1,a2,a3⟩:=ha
 have hft:(⟨((writeE r s).1.kind:Int).toNat,s.2.l.m.ver,(writeE r s).1.body⟩:FrD)=(encRec r s.2.l.m.ver).1:=by
  have h2:=hok.2.1
  show (⟨((encRec r s.2.l.m.ver).1.kind:Int).toNat,s.2.l.m.ver,(encRec r s.2.l.m.ver).1.body⟩:FrD)=(encRec r s.2.l.m.ver).1
  generalize encRec r s.2.l.m.ver=y at h2 ⊢
  rcases y with ⟨⟨a,b,c⟩,e⟩
  simp only [Int.toNat_natCast] at h2 ⊢
  subst h2;rfl
 rw [hft] at a3
 by_cases c4:(writeA r s).2=0
 case neg=>
  rw [if_pos c4]
  refine⟨a1,a2,rfl,Or.inr ⟨c4,rfl,?_⟩⟩
  rcases a3 with ⟨e,_⟩|⟨_,g | g⟩
  ·exact absurd e c4
  ·exact Or.inl ⟨g,h.st,h.ok,h.oks,fun e=>append_loose h.log _ _ e h.ne⟩
  ·exact Or.inr ⟨g,h.st,h.ok,h.oks,fun e=>append_loose h.log _ _ e h.ne⟩
 rw [if_neg (by simp [c4]),a2]
 refine⟨a1,rfl,rfl,Or.inl ⟨hai,(encRec r s.2.l.m.ver).1,?_⟩⟩
 rcases a3 with ⟨_,g1,g2⟩|⟨e,_⟩
 ·refine⟨⟨Or.inl ⟨g1,g2⟩,?_,?_,h.oks,fun _=>by simp⟩,g1⟩
  ·rw [rdAll_app,h.st,if_neg (by simp)]
   show (if (rdFr s.2.st _).2≠0 then rdFr s.2.st _ else rdAll [] (rdFr s.2.st _).1)=_
   rw [hfr,if_neg (by simp [hai])]
   show ((applySt s.2.st (inRec r s.2.l.m.ver)).1,(0:Int))=_
   rfl
  ·exact h.ok.apply (WfR.inRec wr _)
 ·exact absurd c4 e
theorem SoInv.sync {s:SD} {Fr:List FrD} {k:Nat} {Fr0:List FrD} {k0:Nat} (h:SoInv s Fr k Fr0 k0) :
  (syncS s).1.2.l.size=s.2.l.size∧(syncS s).1.2.l.m=s.2.l.m∧(syncS s).1.2.st=s.2.st ∧
  (((syncS s).2=0∧(syncS s).1.2.sure=s.2.st∧(syncS s).1.2.l.loose=false∧SoInv (syncS s).1 Fr Fr.length Fr Fr.length)∨((syncS s).2≠0∧(syncS s).1.2.sure=s.2.sure∧SoInv (syncS s).1 Fr k Fr0 k0)):=by
 obtain⟨a1,a2,a3⟩:=sync_inv h.log
 refine⟨a1,a2,rfl,?_⟩
 rcases a3 with ⟨e,g1,g2⟩|⟨e,g⟩
 ·refine Or.inl ⟨e,if_pos e,g1,⟨Or.inl ⟨g1,?_⟩,h.st,h.ok,?_,fun e'=>h.ne (sync_loose e')⟩⟩
  ·show Firm _ (syncL (s.1,s.2.l)).1.2.m Fr Fr.length
   rw [a2];exact g2
  ·show OkSt (if (syncL (s.1,s.2.l)).2=0 then s.2.st else s.2.sure)
   rw [if_pos e];exact h.ok
 ·refine Or.inr ⟨e,if_neg e,⟨g,h.st,h.ok,?_,fun e'=>h.ne (sync_loose e')⟩⟩
  show OkSt (if (syncL (s.1,s.2.l)).2=0 then s.2.st else s.2.sure)
  rw [if_neg e];exact h.oks
theorem rows_ok {st:StD} (h:OkSt st) {v:Int} (hv:verOk v=true):∀ f∈rowsS v st,FrOk f∧f.ver=v.toNat:=by
 intro f hf
 obtain⟨r,hr,rfl⟩:=List.mem_map.1 hf
 obtain⟨w1,w2,w3⟩:=WfR.recs h r hr
 have:=enc_ok (dec_enc w1 hv w2).1
 exact⟨this.1,this.2.1⟩
theorem SoInv.swap {s:SD} {Fr:List FrD} {k:Nat} {Fr0:List FrD} {k0:Nat} (h:SoInv s Fr k Fr0 k0) {v:Int} {st:StD} (hs:OkSt st) (hv:(s.2.l.m.ver:Int)≤v∧v≤3) :
  (swapS v st s).1.2.l.size=s.2.l.size ∧
  (((swapS v st s).2=0∧(swapS v st s).1.2.l.loose=false∧((swapS v st s).1.2.l.m.ver:Int)=v∧(swapS v st s).1.2.sure=inSt v st∧SoInv (swapS v st s).1 (rowsS v st) (rowsS v st).length (rowsS v st) (rowsS v st).length∧(swapS v st s).1.2.st=inSt v st) ∨
    ((swapS v st s).2≠0∧(swapS v st s).1.2.sure=s.2.sure ∧
   (((swapS v st s).1.2.l.m.ver=s.2.l.m.ver∧(swapS v st s).1.2.st=s.2.st∧SoInv (swapS v st s).1 Fr k Fr0 k0) ∨
     (((swapS v st s).1.2.l.m.ver:Int)=v∧(swapS v st s).1.2.st=inSt v st∧SoInv (swapS v st s).1 (rowsS v st) (rowsS v st).length Fr k)))):=by
 have hvk:verOk v=true:=by
  have:=h.ver
  unfold verOk at this ⊢;simp at this ⊢;omega
 unfold swapS
 rw [if_neg (by omega)]
 have hvt:(v.toNat:Int)=v:=by
  have:=h.ver
  unfold verOk at this;simp at this;omega
 obtain⟨a1,a2⟩:=swap_inv2 h.log v.toNat (rowsS v st) (rows_ok hs hvk)
 rw [show swapL v.toNat ((rowsS v st).map frBytes) (s.1,s.2.l)=swapA v st s from rfl] at a1 a2
 have hrd:rdAll (rowsS v st) zeroSt=(inSt v st,0):=rdAll_rows hs hvk
 have hne:rowsS v st≠[]:=by unfold rowsS recsSt;simp
 refine⟨a1,?_⟩
 rcases a2 with ⟨e,g1,g2,g3,g4⟩|⟨e,⟨g1,g2,g3⟩|⟨g1,g2,g3⟩⟩
 ·refine Or.inl ⟨e,g1,by rw [show (_:Int)=((swapA v st s).1.2.m.ver:Int) from rfl,g2,hvt],if_pos e,⟨Or.inl ⟨g1,g4⟩,?_,?_,?_,fun _=>hne⟩,if_neg g3⟩
  ·show rdAll _ zeroSt=((if s.2.l.m.segs=(swapA v st s).1.2.m.segs then s.2.st else inSt v st),0)
   rw [if_neg g3];exact hrd
  ·show OkSt (if s.2.l.m.segs=(swapA v st s).1.2.m.segs then s.2.st else inSt v st)
   rw [if_neg g3];exact hs.inSt v
  ·show OkSt (if (swapA v st s).2=0 then inSt v st else s.2.sure)
   rw [if_pos e];exact hs.inSt v
 ·have hseg:s.2.l.m.segs=(swapA v st s).1.2.m.segs:=by rw [g1]
  refine Or.inr ⟨e,if_neg e,Or.inl ⟨by show (swapA v st s).1.2.m.ver=_;rw [g1],if_pos hseg,⟨g3,?_,?_,?_,fun e'=>h.ne (g2 e')⟩⟩⟩
  ·show rdAll _ zeroSt=((if s.2.l.m.segs=(swapA v st s).1.2.m.segs then s.2.st else inSt v st),0)
   rw [if_pos hseg];exact h.st
  ·show OkSt (if s.2.l.m.segs=(swapA v st s).1.2.m.segs then s.2.st else inSt v st)
   rw [if_pos hseg];exact h.ok
  ·show OkSt (if (swapA v st s).2=0 then inSt v st else s.2.sure)
   rw [if_neg e];exact h.oks
 ·refine Or.inr ⟨e,if_neg e,Or.inr ⟨by rw [show (_:Int)=((swapA v st s).1.2.m.ver:Int) from rfl,g1,hvt],if_neg g2,⟨g3,?_,?_,?_,fun _=>hne⟩⟩⟩
  ·show rdAll _ zeroSt=((if s.2.l.m.segs=(swapA v st s).1.2.m.segs then s.2.st else inSt v st),0)
   rw [if_neg g2];exact hrd
  ·show OkSt (if s.2.l.m.segs=(swapA v st s).1.2.m.segs then s.2.st else inSt v st)
   rw [if_neg g2];exact hs.inSt v
  ·show OkSt (if (swapA v st s).2=0 then inSt v st else s.2.sure)
   rw [if_neg e];exact h.oks
theorem peek_on {d:DiskD} {m:ManD} {Fr:List FrD} (h:OnDisk d m Fr):peekS d=((m.ver:Int),0):=by
 unfold peekS
 rw [h.head.read]
 simp only [man_dec h.may]
theorem open_so {d:DiskD} {m:ManD} {Fr:List FrD} (h:OnDisk d m Fr) (hf:d.fail=0) {st:StD} (hr:rdAll Fr zeroSt=(st,0)) (hok:OkSt st) {ver:Int} (size:Int) (hv:(m.ver:Int)≤ver∧ver≤3) :
  ∃ d',openS ver size d=(d',some ⟨⟨sized size,m,false⟩,st,st⟩,0)∧SoInv (d',⟨⟨sized size,m,false⟩,st,st⟩) Fr Fr.length Fr Fr.length:=by
 obtain⟨d',h1,h2,h3⟩:=open_on rdFr h hf size zeroSt
 rw [tellAll_rd _ _ (fun f hf=>(h.ver f hf).2),hr,if_neg (by simp)] at h1
 refine⟨cleanD ⟨sized size,m,false⟩ (dNames d') d',?_,⟨Or.inl ⟨rfl,clean_firm _ _ h2⟩,hr,hok,hok,(fun e=>by cases e)⟩⟩
 unfold openS
 rw [peek_on h,if_neg (by simp),if_neg (by simp only;omega),h1]
theorem SoInv.crash {s:SD} {Fr:List FrD} {k:Nat} (h:SoInv s Fr k Fr k) (p:List UInt8) :
  ∃ m0 j,k≤j∧j≤Fr.length∧m0.ver=s.2.l.m.ver∧OnDisk (dCrash s.1 p) m0 (Fr.take j):=by
 have hfr:=h.log.now.2.2.frames
 rcases h.log with ⟨h1,h2⟩|⟨hl,h2⟩
 ·obtain⟨j,j1,j2,j3⟩:=(h2.now.congr (h2.st _ (crashNames_state s.1 p)) (fun _ _ _ _=>rfl)).crash h2.ok p
  exact⟨_,j,j1,j2,rfl,j3⟩
 ·rcases h2.st _ (crashNames_state s.1 p) with h3 | ⟨m0,h3⟩
  ·obtain⟨j,j1,j2,j3⟩:=(h2.now.congr h3 (fun _ _ _ _=>rfl)).crash h2.ok p
   exact⟨_,j,j1,j2,rfl,j3⟩
  ·obtain⟨j,j1,j2,j3⟩:=h3.crash h2.ok p
   refine⟨m0,j,j1,j2,?_,j3⟩
   obtain⟨f,hf⟩:=List.exists_mem_of_ne_nil _ (h.ne hl)
   rw [← (h3.2.2.frames f hf).2,(hfr f hf).2]
/-! ### Where nothing fails -/
structure SoRm (s:SD) (Fr:List FrD) (k n:Nat):Prop where
 inv:SoInv s Fr k Fr k
 loose:s.2.l.loose=false
 rm:Rm s.1 (600 * n) (2 * n)
 segs:s.2.l.m.segs.length+n≤64
 next:s.2.l.m.next+n≤1000000
theorem SoInv.firm {s:SD} {Fr:List FrD} {k:Nat} {Fr0:List FrD} {k0:Nat} (h:SoInv s Fr k Fr0 k0) (hl:s.2.l.loose=false):Firm s.1 s.2.l.m Fr k:=by
 rcases h.log with ⟨_,g⟩|⟨e,_⟩
 ·exact g
 ·rw [hl] at e;cases e
theorem writeS_ok {r:Rec} {s:SD} (h:(writeS r s).2=0):mayRec r=true∧(writeS r s).1.1=(writeA r s).1.1∧(writeS r s).1.2.l=(writeA r s).1.2:=by
 unfold writeS at h ⊢
 by_cases c1:mayRec r=false∨r.kind=6
 ·rw [if_pos c1] at h;simp at h
 rw [if_neg c1] at h ⊢
 have hm:mayRec r=true:=by cases e:mayRec r <;> simp_all
 by_cases c2:(applySt s.2.st r).2=0
 case neg=>rw [if_pos c2] at h;exact absurd h c2
 rw [if_neg (by simp [c2])] at h ⊢
 by_cases c3:(writeE r s).2=0
 case neg=>rw [if_pos c3] at h;exact absurd h c3
 rw [if_neg (by simp [c3])] at h ⊢
 by_cases c4:(writeA r s).2=0
 case neg=>rw [if_pos c4] at h;exact absurd h c4
 rw [if_neg (by simp [c4])]
 exact⟨hm,rfl,rfl⟩
theorem SoRm.app {s:SD} {Fr:List FrD} {k n:Nat} (h:SoRm s Fr k (n+1)) {r:Rec} (wr:WfR r) (hm:mayRec r=true) :
  (writeA r s).2=0∧Rm (writeA r s).1.1 (600 * n) (2 * n)∧(writeA r s).1.2.m.segs.length≤s.2.l.m.segs.length+1∧(writeA r s).1.2.m.next≤s.2.l.m.next+1:=by
 have hv:=h.inv.ver
 have hb:(writeE r s).1.body.length≤200:=by
  show (encRec r s.2.l.m.ver).1.body.length≤200
  unfold encRec
  rw [if_neg (by simp [hv]),if_neg (by simp [hm])]
  exact recBody_length _ hm
 have hok:=(enc_ok (r:=r) (v:=s.2.l.m.ver) (dec_enc wr hv hm).1).1
 have hk:(writeE r s).1.kind < 256:=hok.kind
 have hver:s.2.l.m.ver≤255:=by have:=h.inv.ver;unfold verOk at this;simp at this;omega
 have hp:putErr (writeE r s).1.kind s.2.l.m.ver (writeE r s).1.body.length=0:=by
  unfold putErr
  rw [if_neg (by omega),if_neg (by omega)]
 exact append_rm (h.inv.firm h.loose) h.loose _ _ (B:=600 * n) (n:=2 * n) (h.rm.le (by omega) (by omega)) (by have:=h.segs;omega) (by have:=h.next;omega) hp
theorem writeS_err {r:Rec} {s:SD} (hv:verOk (s.2.l.m.ver:Int)=true) (ha:mayRec r=true→(writeA r s).2=0∧(writeA r s).1.2.m.ver=s.2.l.m.ver) (h:(writeS r s).2≠0):(writeS r s).1=s:=by
 unfold writeS at h ⊢
 by_cases c1:mayRec r=false∨r.kind=6
 ·rw [if_pos c1]
 rw [if_neg c1] at h ⊢
 have hm:mayRec r=true:=by cases e:mayRec r <;> simp_all
 by_cases c2:(applySt s.2.st r).2=0
 case neg=>rw [if_pos c2]
 rw [if_neg (by simp [c2])] at h ⊢
 by_cases c3:(writeE r s).2=0
 case neg=>rw [if_pos c3]
 rw [if_neg (by simp [c3])] at h ⊢
 rw [if_neg (by simp [(ha hm).1])] at h ⊢
 rw [(ha hm).2] at h
 exact absurd (apply_in hv c2) h
theorem SoRm.write {s:SD} {Fr:List FrD} {k n:Nat} (h:SoRm s Fr k (n+1)) {r:Rec} (wr:WfR r) :
  (writeS r s).1.2.l.size=s.2.l.size∧(writeS r s).1.2.l.m.ver=s.2.l.m.ver∧(writeS r s).1.2.sure=s.2.sure ∧
  (((writeS r s).2=0∧∃ f,SoRm (writeS r s).1 (Fr++[f]) k n)∨((writeS r s).2≠0∧(writeS r s).1=s)):=by
 obtain⟨a1,a2,a3,a4⟩:=h.inv.write wr
 refine⟨a1,a2,a3,?_⟩
 rcases a4 with ⟨e,f,g1,g2⟩|⟨e,_,_⟩
 ·obtain⟨e1,e2,e3⟩:=writeS_ok e
  obtain⟨b1,b2,b3,b4⟩:=h.app wr e1
  refine Or.inl ⟨e,f,g1,g2,by rw [e2];exact b2,?_,?_⟩
  ·rw [e3];have:=h.segs;omega
  ·rw [e3];have:=h.next;omega
 ·refine Or.inr ⟨e,writeS_err h.inv.ver (fun hm=>⟨(h.app wr hm).1,?_⟩) e⟩
  exact (append_inv h.inv.log ((writeE r s).1.kind:Int) (writeE r s).1.body).2.1
theorem SoRm.less {s:SD} {Fr:List FrD} {k n n':Nat} (h:SoRm s Fr k n) (hn:n'≤n):SoRm s Fr k n':=
 ⟨h.inv,h.loose,h.rm.le (by omega) (by omega),by have:=h.segs;omega,by have:=h.next;omega⟩
theorem SoRm.sync {s:SD} {Fr:List FrD} {k n:Nat} (h:SoRm s Fr k n):(syncS s).2=0∧(syncS s).1.2.sure=s.2.st∧(syncS s).1.2.st=s.2.st∧(syncS s).1.2.l=s.2.l∧SoRm (syncS s).1 Fr Fr.length n:=by
 obtain⟨a1,a2,a3⟩:=sync_lrm (h.inv.firm h.loose) h.loose h.rm
 obtain⟨_,b2,b3,b4⟩:=h.inv.sync
 rcases b4 with ⟨e,g1,g2,g3⟩|⟨e,_⟩
 ·refine⟨e,g1,b3,a3,g3,g2,a2,?_,?_⟩
  ·rw [b2];exact h.segs
  ·rw [b2];exact h.next
 ·exact absurd a1 e
theorem nil_inv {l:LogD} {d:DiskD} (hl:l.loose=false) (h:Firm d l.m [] 0):SoInv (d,⟨l,zeroSt,zeroSt⟩) [] 0 [] 0:=⟨Or.inl ⟨hl,h⟩,rfl,OkSt.zero,OkSt.zero,fun e=>by rw [show _=l.loose from rfl,hl] at e;cases e⟩
theorem SoRm.start {v:Int} (hv:1≤v∧v≤3) (size:Int) (q:Int) (n:Nat) (hq:600 * (n:Int)+278≤q∧q≤1048576) (hn:n≤62) :
  ∃ s:SD,createS v size (dNew q)=(s.1,some s.2,0)∧SoRm s [] 0 n∧s.2.st=zeroSt∧s.2.sure=zeroSt∧(s.2.l.m.ver:Int)=v∧s.2.l.size=sized size:=by
 have hq':(dNew q).quota=q.toNat:=by
  show (max 0 (min q 67108864)).toNat=q.toNat
  omega
 obtain⟨d',h1,h2,h3⟩:=create_rm (d:=dNew q) (B:=600 * n) (n:=2 * n) (dNew_ok q) ⟨rfl,by rw [hq'];show 0+_≤_;omega,by show 0+_≤200;omega,by rw [hq'];omega⟩ rfl (v:=v.toNat) (by omega) size
 have hvt:(v.toNat:Int)=v:=by omega
 rw [hvt] at h1
 refine⟨(d',⟨⟨sized size,firstM v.toNat,false⟩,zeroSt,zeroSt⟩),?_,⟨nil_inv rfl h2,rfl,h3,?_,?_⟩,rfl,rfl,hvt,rfl⟩
 ·unfold createS;rw [h1]
 ·show 1+n≤64;omega
 ·show 2+n≤1000000;omega
def inB (x m:Int):Bool:=decide (0≤x∧x≤m)
theorem rc_in (x m:Int) (w:World):Calls Tryz.prog 184 #[.int .i64 x,.int .i64 m] w fun e w'=>e=.returned (.bool (inB x m))∧w'=w:=by
 by_cases h0:0≤x
 ·by_cases h1:x≤m
  ·have e:inB x m=true:=decide_eq_true ⟨h0,h1⟩
   rw [e];clear e
   go_enter Tryz.func184,Tryz.ntmps184
   go_wp2_with fail
   go_ret
   exact⟨rfl,rfl⟩
  ·have e:inB x m=false:=decide_eq_false (fun h=>h1 h.2)
   have q:decide (x≤m)=false:=decide_eq_false h1
   rw [e];clear e h1
   go_enter Tryz.func184,Tryz.ntmps184
   go_wp2_with fail
   go_ret
   exact⟨rfl,rfl⟩
 ·have e:inB x m=false:=decide_eq_false (fun h=>h0 h.1)
  have q:decide (0≤x)=false:=decide_eq_false h0
  rw [e];clear e h0
  go_enter Tryz.func184,Tryz.ntmps184
  go_wp2_with fail
  go_ret
  exact⟨rfl,rfl⟩
theorem rc_time (x:Int) (w:World):Calls Tryz.prog 185 #[.int .i64 x] w fun e w'=>e=.returned (.bool (inB x 1099511627776))∧w'=w:=by
 by_cases h0:0≤x
 ·by_cases h1:x≤1099511627776
  ·have e:inB x 1099511627776=true:=decide_eq_true ⟨h0,h1⟩
   rw [e];clear e
   go_enter Tryz.func185,Tryz.ntmps185
   go_wp2_with fail
   go_ret
   exact⟨rfl,rfl⟩
  ·have e:inB x 1099511627776=false:=decide_eq_false (fun h=>h1 h.2)
   have q:decide (x≤1099511627776)=false:=decide_eq_false h1
   rw [e];clear e h1
   go_enter Tryz.func185,Tryz.ntmps185
   go_wp2_with fail
   go_ret
   exact⟨rfl,rfl⟩
 ·have e:inB x 1099511627776=false:=decide_eq_false (fun h=>h0 h.1)
  have q:decide (0≤x)=false:=decide_eq_false h0
  rw [e];clear e h0
  go_enter Tryz.func185,Tryz.ntmps185
  go_wp2_with fail
  go_ret
  exact⟨rfl,rfl⟩
theorem rc_version (x:Int) (w:World):Calls Tryz.prog 191 #[.int .i64 x] w fun e w'=>e=.returned (.bool (verOk x))∧w'=w:=by
 by_cases h0:1≤x
 ·by_cases h1:x≤3
  ·have e:verOk x=true:=decide_eq_true ⟨h0,h1⟩
   rw [e];clear e
   go_enter Tryz.func191,Tryz.ntmps191
   go_wp2_with fail
   go_ret
   exact⟨rfl,rfl⟩
  ·have e:verOk x=false:=decide_eq_false (fun h=>h1 h.2)
   have q:decide (x≤3)=false:=decide_eq_false h1
   rw [e];clear e h1
   go_enter Tryz.func191,Tryz.ntmps191
   go_wp2_with fail
   go_ret
   exact⟨rfl,rfl⟩
 ·have e:verOk x=false:=decide_eq_false (fun h=>h0 h.1)
  have q:decide (1≤x)=false:=decide_eq_false h0
  rw [e];clear e h0
  go_enter Tryz.func191,Tryz.ntmps191
  go_wp2_with fail
  go_ret
  exact⟨rfl,rfl⟩
theorem mayBk_eq (b:Bk):mayBk b=(inB b.id 65535 && decide (1≤b.weight∧b.weight≤10)):=rfl
section
variable {F0:List Nat} {w0 w:World} {R:List Asrt}
theorem o_rcbk (b:Bk) (h:In F0 w0 w R):Calls Tryz.prog 188 #[.agg (encB b).toArray] w fun e w'=>e=.returned (.bool (mayBk b))∧In F0 w0 w' R:=by
 have G:=Lib.hid ((h.cells (encB b).toArray 160).drop)
 have K:=Lib.hid (rc_in b.id 65535)
 rw [mayBk_eq]
 obtain⟨id,addr,wt⟩:=b
 simp only at K ⊢
 clear h
 cases hi:inB id 65535 with
 | false=>
  rw [hi] at K;clear hi
  go_enter Tryz.func188,Tryz.ntmps188
  go_wp2_with fail
  refine (K.out _).mono ?_
  rintro e w1 ⟨rfl,rfl⟩
  clear K
  go_wp2_with fail
  go_ret
  exact⟨rfl,G.out⟩
 | true=>
  rw [hi] at K;clear hi
  by_cases h1:1≤wt
  ·by_cases h2:wt≤10
   ·have e:(true && decide (1≤wt∧wt≤10))=true:=by simp [h1,h2]
    rw [e];clear e
    go_enter Tryz.func188,Tryz.ntmps188
    go_wp2_with fail
    refine (K.out _).mono ?_
    rintro e w1 ⟨rfl,rfl⟩
    clear K
    go_wp2_with fail
    go_ret
    exact⟨rfl,G.out⟩
   ·have e:(true && decide (1≤wt∧wt≤10))=false:=by simp [h1,h2]
    have q:decide (wt≤10)=false:=decide_eq_false h2
    rw [e];clear e h2
    go_enter Tryz.func188,Tryz.ntmps188
    go_wp2_with fail
    refine (K.out _).mono ?_
    rintro e w1 ⟨rfl,rfl⟩
    clear K
    go_wp2_with fail
    go_ret
    exact⟨rfl,G.out⟩
  ·have e:(true && decide (1≤wt∧wt≤10))=false:=by simp [h1]
   have q:decide (1≤wt)=false:=decide_eq_false h1
   rw [e];clear e h1
   go_enter Tryz.func188,Tryz.ntmps188
   go_wp2_with fail
   refine (K.out _).mono ?_
   rintro e w1 ⟨rfl,rfl⟩
   clear K
   go_wp2_with fail
   go_ret
   exact⟨rfl,G.out⟩
theorem o_rcmay1 (b:Bk) (h:In F0 w0 w R):Calls Tryz.prog 187 #[.agg (encB b).toArray] w fun e w'=>e=.returned (.bool (!mayBk b))∧In F0 w0 w' R:=by
 have K:=Lib.hid (o_rcbk b ((h.cells (encB b).toArray 160).drop))
 obtain⟨id,addr,wt⟩:=b
 clear h
 go_enter Tryz.func187,Tryz.ntmps187
 go_wp2_with fail
 refine K.out.mono ?_
 rintro e w1 ⟨rfl,g⟩
 have G:=Lib.hid g
 clear g K
 go_wp2_with fail
 go_ret
 exact⟨rfl,G.out⟩
theorem Src.plain {w:World} {A:Option Addr} {m k:Nat} {news:List Value} (h:Src w A m k news) (h0:0 < m) (hk:0 < k):∃ g o,A=some ⟨g,o,none⟩∧∀ j u,news[j]?=some u→w.cell? ⟨g,o+j,none⟩=some u:=by
 obtain⟨ad,e,hc⟩:=h.at' h0
 have hl:0 < news.length:=by rw [h.len];exact Nat.mul_pos h0 hk
 have c0:=hc 0 _ (List.getElem?_eq_getElem hl)
 have e2:=addr_none c0
 refine⟨ad.block,ad.off,by rw [e];exact congrArg some e2,fun j u hu=>?_⟩
 have:=hc j u hu
 rw [e2,add_plain] at this
 exact this
def BksAt (F0:List Nat) (w0:World) (R:List Asrt) (A:Option Addr) (l:List Bk):Prop:=∀ w',In F0 w0 w' R→Src w' A l.length 3 (bkV l)
theorem BksAt.cell {A:Option Addr} {l:List Bk} (hs:BksAt F0 w0 R A l) (h:In F0 w0 w R) {k:Nat} {b:Bk} (hb:l[k]?=some b):∃ g o,A=some ⟨g,o,none⟩∧w.cell? ⟨g,o+k * 3,none⟩=some (.int .i64 b.id)∧w.cell? ⟨g,o+k * 3+1,none⟩=some (.int .u32 b.addr)∧w.cell? ⟨g,o+k * 3+2,none⟩=some (.int .i64 b.weight):=by
 have hk:=(List.getElem?_eq_some_iff.1 hb).1
 obtain⟨g,o,e,hc⟩:=(hs w h).plain (by omega) (by decide)
 obtain⟨b0,b1,b2⟩:=bkV_at hb
 exact⟨g,o,e,hc _ _ b0,hc _ _ b1,hc _ _ b2⟩
def IdxRel (l:List Bk) (F0:List Nat) (w0:World) (R:List Asrt) (i:Value) (wr:World):Prop:=∃ k:Nat,k≤l.length∧i=.int .i64 k∧(∀ b∈l.take k,mayBk b=true)∧In F0 w0 wr R
def IdxPost (l:List Bk) (F0:List Nat) (w0:World) (R:List Asrt) (e:Ending) (w':World):Prop:=∃ z:Int,e=.returned (.int .i64 z)∧decide (0≤z)=l.any (fun b=>!mayBk b)∧In F0 w0 w' R
theorem idx_step {l:List Bk} {k:Nat} {b:Bk} (hb:l[k]?=some b) (ha:∀ b∈l.take k,mayBk b=true) (h:mayBk b=true) (hi:In F0 w0 w R):IdxRel l F0 w0 R (.int .i64 ((k:Int)+1)) w:=by
 refine⟨k+1,(List.getElem?_eq_some_iff.1 hb).1,by rw [Int.natCast_add];rfl,fun x hx=>?_,hi⟩
 rw [List.take_add_one,hb] at hx
 rcases List.mem_append.1 hx with hx | hx
 ·exact ha x hx
 ·simp at hx;subst hx;exact h
theorem o_idxbk {l:List Bk} {A:Option Addr} {c:Nat} (hs:BksAt F0 w0 R A l) (hl:l.length≤1000000000) (h:In F0 w0 w R):Calls Tryz.prog 232 #[.slice A l.length c,.func (.func 187) #[] #[]] w (IdxPost l F0 w0 R):=by
 have HR:Hid (IdxRel l F0 w0 R (.int .i64 0) w):=Lib.hid ⟨0,Nat.zero_le _,rfl,by simp,h⟩
 have HS:=Lib.hid hs
 have hln:l.length≤1000000000:=hl
 clear h hs hl
 go_enter Tryz.func232,Tryz.ntmps232
 go_wp2_with fail
 go_loopw [8] (IdxRel l F0 w0 R) (fun k _=>l.length - (intOf k).toNat)
 case atStart=>exact HR.out
 case round=>
  obtain⟨k,hk,rfl,hall,hio⟩:=hrel
  clear HR
  by_cases hlt:k < l.length
  ·obtain⟨b,hb⟩:∃ b,l[k]?=some b:=⟨l[k],List.getElem?_eq_getElem hlt⟩
   obtain⟨g,o,rfl,c0,c1,c2⟩:=HS.out.cell hio hb
   have hlt':(k:Int) < (l.length:Int):=Int.ofNat_lt.2 hlt
   have hw2:wrap64 ((k:Int)+1)=(k:Int)+1:=by unfold wrap64;omega
   have K:=Lib.hid (o_rcmay1 b hio)
   have HN:=Lib.hid (fun (h1:mayBk b=true) w' (h':In F0 w0 w' R)=>idx_step (w:=w') hb hall h1 h')
   have HX:=Lib.hid (fun (h1:mayBk b=false) w' (h':In F0 w0 w' R)=>(show IdxPost l F0 w0 R (.returned (.int .i64 k)) w' from ⟨k,rfl,by
    have:l.any (fun b=>!mayBk b)=true:=List.any_eq_true.2 ⟨b,List.mem_of_getElem? hb,by simp [h1]⟩
    rw [this];simp,h'⟩))
   clear hio hall hb hlt hk
   cases hm:mayBk b with
   | true=>
    rw [hm] at K
    have HN1:=Lib.hid (HN.out hm)
    clear HN HX hm
    go_wp2_with fail
    refine K.out.mono ?_
    rintro e w1 ⟨rfl,g1⟩
    have HN2:=Lib.hid (HN1.out w1 g1)
    clear g1 K HN1
    go_wp2_with fail
    go_roundw
    case rel=>(try rw [hw2]);exact HN2.out
    case measure=>(try rw [hw2]);exact meas_lt hlt'
   | false=>
    rw [hm] at K
    have HX1:=Lib.hid (HX.out hm)
    clear HN HX hm
    go_wp2_with fail
    refine K.out.mono ?_
    rintro e w1 ⟨rfl,g1⟩
    have HN2:=Lib.hid (HX1.out w1 g1)
    clear g1 K HX1
    go_wp2_with fail
    go_ret
    exact HN2.out
  ·have hge:(l.length:Int)≤(k:Int):=Int.ofNat_le.2 (Nat.le_of_not_lt hlt)
   have hkl:l.take k=l:=List.take_of_length_le (Nat.le_of_not_lt hlt)
   rw [hkl] at hall
   have G:Hid (IdxPost l F0 w0 R (.returned (.int .i64 (-1))) wr):=Lib.hid ⟨-1,rfl,by
    have:l.any (fun b=>!mayBk b)=false:=List.any_eq_false.2 (fun b hb=>by simp [hall b hb])
    rw [this];rfl,hio⟩
   clear hio hkl hlt hk hall
   go_wp2_with fail
   go_ret
   exact G.out
theorem o_contbk {l:List Bk} {A:Option Addr} {c:Nat} (hs:BksAt F0 w0 R A l) (hl:l.length≤1000000000) (h:In F0 w0 w R):Calls Tryz.prog 186 #[.slice A l.length c,.func (.func 187) #[] #[]] w fun e w'=>e=.returned (.bool (l.any (fun b=>!mayBk b)))∧In F0 w0 w' R:=by
 have K:=Lib.hid (o_idxbk (c:=c) hs hl h)
 clear h hs hl
 go_enter Tryz.func186,Tryz.ntmps186
 go_wp2_with fail
 refine K.out.mono ?_
 rintro e w1 ⟨z,rfl,hz,g⟩
 have HZ:=Lib.hid hz
 have G:=Lib.hid g
 clear g K hz
 go_wp2_with fail
 go_ret
 exact⟨by rw [← HZ.out];rfl,G.out⟩
end
theorem tmay_b (t:Tup) (w:World):Calls Tryz.prog 183 #[.agg (encT t)] w fun e w'=>e=.returned (.bool (decide (MayT t)))∧w'=w.alloc (.cells (encT t) 65):=by
 by_cases h:MayT t
 ·rw [decide_eq_true h];exact tmay_true h w
 ·rw [decide_eq_false h];exact tmay_false h w
theorem mayF_b (f:Fl):decide (MayF f)=(decide (MayT f.t) && (inB f.bk 65535 && (inB f.gen 1000000 && inB f.seen 1099511627776))):=by
 unfold inB
 rw [Bool.eq_iff_iff]
 simp only [decide_eq_true_eq,Bool.and_eq_true,mayF_iff]
 constructor
 ·rintro ⟨a,b,c,d,e,f,g⟩;exact⟨a,⟨b,c⟩,⟨d,e⟩,f,g⟩
 ·rintro ⟨a,⟨b,c⟩,⟨d,e⟩,f,g⟩;exact⟨a,b,c,d,e,f,g⟩
theorem not_any (l:List Bk):(!l.any (fun b=>!mayBk b))=l.all mayBk:=by
 induction l with
 | nil=>rfl
 | cons b l ih=>simp only [List.any_cons,List.all_cons,Bool.not_or,Bool.not_not,ih]
section
variable {F0:List Nat} {w0 w:World} {R:List Asrt}
abbrev agR (r:Rec) (A:Option Addr) (c:Nat):Value:=.agg (encRL r (.slice A r.bks.length c)).toArray
theorem o_rcmay {r:Rec} {A:Option Addr} {c:Nat} (hs:BksAt F0 w0 R A r.bks) (hl:r.bks.length≤1000000000) (h:In F0 w0 w R):Calls Tryz.prog 99 #[agR r A c] w fun e w'=>e=.returned (.bool (mayRec r))∧In F0 w0 w' R:=by
 have H:=Lib.hid h
 have HS:=Lib.hid hs
 have HL:=Lib.hid hl
 clear h hs hl
 obtain⟨kind,fl,gen,bks,bk,till,count⟩:=r
 by_cases k1:kind=1
 ·subst k1
  have e:mayRec ⟨1,fl,gen,bks,bk,till,count⟩=decide (MayF fl):=rfl
  rw [e,mayF_b];clear e
  have KT:=Lib.hid (tmay_b fl.t)
  obtain⟨⟨src,dst,proto,sport,dport⟩,fbk,fgen,fseen⟩:=fl
  simp only at KT ⊢
  have K1:=Lib.hid (rc_in fbk 65535)
  have K2:=Lib.hid (rc_in fgen 1000000)
  have K3:=Lib.hid (rc_time fseen)
  generalize decide (MayT ⟨src,dst,proto,sport,dport⟩)=mt at *
  generalize inB fbk 65535=b1 at *
  generalize inB fgen 1000000=b2 at *
  generalize inB fseen 1099511627776=b3 at *
  cases mt with
  | false=>
   go_enter Tryz.func99,Tryz.ntmps99
   go_wp2_with fail
   refine (KT.out _).mono ?_
   rintro e w1 ⟨rfl,rfl⟩
   clear KT
   go_wp2_with fail
   go_ret
   exact⟨rfl,((H.out.alloc _).alloc _).alloc _⟩
  | true=>
   cases b1 with
   | false=>
    go_enter Tryz.func99,Tryz.ntmps99
    go_wp2_with fail
    refine (KT.out _).mono ?_
    rintro e w1 ⟨rfl,rfl⟩
    clear KT
    go_wp2_with fail
    refine (K1.out _).mono ?_
    rintro e w1 ⟨rfl,rfl⟩
    clear K1
    go_wp2_with fail
    go_ret
    exact⟨rfl,((H.out.alloc _).alloc _).alloc _⟩
   | true=>
    cases b2 with
    | false=>
     go_enter Tryz.func99,Tryz.ntmps99
     go_wp2_with fail
     refine (KT.out _).mono ?_
     rintro e w1 ⟨rfl,rfl⟩
     clear KT
     go_wp2_with fail
     refine (K1.out _).mono ?_
     rintro e w1 ⟨rfl,rfl⟩
     clear K1
     go_wp2_with fail
     refine (K2.out _).mono ?_
     rintro e w1 ⟨rfl,rfl⟩
     clear K2
     go_wp2_with fail
     go_ret
     exact⟨rfl,((H.out.alloc _).alloc _).alloc _⟩
    | true=>
     go_enter Tryz.func99,Tryz.ntmps99
     go_wp2_with fail
     refine (KT.out _).mono ?_
     rintro e w1 ⟨rfl,rfl⟩
     clear KT
     go_wp2_with fail
     refine (K1.out _).mono ?_
     rintro e w1 ⟨rfl,rfl⟩
     clear K1
     go_wp2_with fail
     refine (K2.out _).mono ?_
     rintro e w1 ⟨rfl,rfl⟩
     clear K2
     go_wp2_with fail
     refine (K3.out _).mono ?_
     rintro e w1 ⟨rfl,rfl⟩
     clear K3
     go_wp2_with fail
     go_ret
     exact⟨by simp,((H.out.alloc _).alloc _).alloc _⟩
 by_cases k2:kind=2
 ·subst k2
  have e:mayRec ⟨2,fl,gen,bks,bk,till,count⟩=decide (MayT fl.t):=rfl
  rw [e];clear e k1
  have KT:=Lib.hid (tmay_b fl.t)
  obtain⟨⟨src,dst,proto,sport,dport⟩,fbk,fgen,fseen⟩:=fl
  simp only at KT ⊢
  go_enter Tryz.func99,Tryz.ntmps99
  go_wp2_with fail
  refine (KT.out _).mono ?_
  rintro e w1 ⟨rfl,rfl⟩
  clear KT
  go_wp2_with fail
  go_ret
  exact⟨rfl,(H.out.alloc _).alloc _⟩
 by_cases k3:kind=3
 ·subst k3
  have e:mayRec ⟨3,fl,gen,bks,bk,till,count⟩=(inB gen 1000000 && (decide (bks.length≤16) && bks.all mayBk)):=rfl
  rw [e,← not_any];clear e k1 k2
  have K1:=Lib.hid (rc_in gen 1000000)
  have HG:Hid (∀ o,In F0 w0 (w.alloc o) R):=Lib.hid fun o=>H.out.alloc o
  have K2:Hid (∀ o,Calls Tryz.prog 186 #[.slice A bks.length c,.func (.func 187) #[] #[]] (w.alloc o) fun e w'=>e=.returned (.bool (bks.any (fun b=>!mayBk b)))∧In F0 w0 w' R):=Lib.hid fun o=>o_contbk HS.out HL.out (HG.out o)
  generalize inB gen 1000000=b1 at *
  generalize bks.any (fun b=>!mayBk b)=b2 at *
  cases b1 with
  | false=>
   go_enter Tryz.func99,Tryz.ntmps99
   go_wp2_with fail
   refine (K1.out _).mono ?_
   rintro e w1 ⟨rfl,rfl⟩
   clear K1
   go_wp2_with fail
   go_ret
   exact⟨rfl,H.out.alloc _⟩
  | true=>
   by_cases h16:bks.length≤16
   ·have q:((bks.length:Nat):Int)≤16:=by omega
    have e:(true && (decide (bks.length≤16) && !b2))=!b2:=by simp [h16]
    rw [e];clear e h16
    go_enter Tryz.func99,Tryz.ntmps99
    go_wp2_with fail
    refine (K1.out _).mono ?_
    rintro e w1 ⟨rfl,rfl⟩
    clear K1
    go_wp2_with fail
    refine (K2.out _).mono ?_
    rintro e w1 ⟨rfl,g⟩
    have G:=Lib.hid g
    clear g K2
    go_wp2_with fail
    go_ret
    exact⟨by simp,G.out⟩
   ·have q:decide (((bks.length:Nat):Int)≤16)=false:=decide_eq_false (by omega)
    have q2:decide (bks.length≤16)=false:=decide_eq_false h16
    have e:(true && (decide (bks.length≤16) && !b2))=false:=by simp [h16]
    rw [e];clear e h16
    go_enter Tryz.func99,Tryz.ntmps99
    go_wp2_with fail
    refine (K1.out _).mono ?_
    rintro e w1 ⟨rfl,rfl⟩
    clear K1
    go_wp2_with fail
    go_ret
    exact⟨rfl,H.out.alloc _⟩
 by_cases k4:kind=4
 ·subst k4
  have e:mayRec ⟨4,fl,gen,bks,bk,till,count⟩=(inB bk 65535 && inB till 1099511627776):=rfl
  rw [e];clear e k1 k2 k3
  have K1:=Lib.hid (rc_in bk 65535)
  have K2:=Lib.hid (rc_time till)
  generalize inB bk 65535=b1 at *
  generalize inB till 1099511627776=b2 at *
  cases b1 with
  | false=>
   go_enter Tryz.func99,Tryz.ntmps99
   go_wp2_with fail
   refine (K1.out _).mono ?_
   rintro e w1 ⟨rfl,rfl⟩
   clear K1
   go_wp2_with fail
   go_ret
   exact⟨rfl,H.out.alloc _⟩
  | true=>
   go_enter Tryz.func99,Tryz.ntmps99
   go_wp2_with fail
   refine (K1.out _).mono ?_
   rintro e w1 ⟨rfl,rfl⟩
   clear K1
   go_wp2_with fail
   refine (K2.out _).mono ?_
   rintro e w1 ⟨rfl,rfl⟩
   clear K2
   go_wp2_with fail
   go_ret
   exact⟨by simp,H.out.alloc _⟩
 by_cases k5:kind=5
 ·subst k5
  have e:mayRec ⟨5,fl,gen,bks,bk,till,count⟩=inB bk 65535:=rfl
  rw [e];clear e k1 k2 k3 k4
  have K1:=Lib.hid (rc_in bk 65535)
  go_enter Tryz.func99,Tryz.ntmps99
  go_wp2_with fail
  refine (K1.out _).mono ?_
  rintro e w1 ⟨rfl,rfl⟩
  clear K1
  go_wp2_with fail
  go_ret
  exact⟨rfl,H.out.alloc _⟩
 by_cases k6:kind=6
 ·subst k6
  have e:mayRec ⟨6,fl,gen,bks,bk,till,count⟩=inB count 1000000:=rfl
  rw [e];clear e k1 k2 k3 k4 k5
  have K1:=Lib.hid (rc_in count 1000000)
  go_enter Tryz.func99,Tryz.ntmps99
  go_wp2_with fail
  refine (K1.out _).mono ?_
  rintro e w1 ⟨rfl,rfl⟩
  clear K1
  go_wp2_with fail
  go_ret
  exact⟨rfl,H.out.alloc _⟩
 ·have e:mayRec ⟨kind,fl,gen,bks,bk,till,count⟩=false:=by unfold mayRec;simp only;rw [if_neg k1,if_neg k2,if_neg k3,if_neg k4,if_neg k5,if_neg k6]
  rw [e];clear e
  have q1:(kind == 1)=false:=beq_eq_false_iff_ne.2 k1
  have q2:(kind == 2)=false:=beq_eq_false_iff_ne.2 k2
  have q3:(kind == 3)=false:=beq_eq_false_iff_ne.2 k3
  have q4:(kind == 4)=false:=beq_eq_false_iff_ne.2 k4
  have q5:(kind == 5)=false:=beq_eq_false_iff_ne.2 k5
  have q6:(kind == 6)=false:=beq_eq_false_iff_ne.2 k6
  clear k1 k2 k3 k4 k5 k6
  go_enter Tryz.func99,Tryz.ntmps99
  go_wp2_with fail
  go_ret
  exact⟨rfl,H.out.alloc _⟩
end
end Go.Proofs.YtogclkhpbjfadaaGreat
