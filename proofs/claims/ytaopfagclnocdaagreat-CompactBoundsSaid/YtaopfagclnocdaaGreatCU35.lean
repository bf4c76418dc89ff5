/- Rows.CompactBoundsSaid -/
import Derived.Test.YtaopfagclnocdaaGreatCU11
import Derived.Test.YtaopfagclnocdaaGreatCU34
import Derived.Test.YtaopfagclnocdaaGreatCU29
import Derived.Test.YtaopfagclnocdaaGreatCU32
import Derived.Test.YtaopfagclnocdaaGreatCU33
import Derived.Test.YtaopfagclnocdaaGreatCU15
import Derived.Test.YtaopfagclnocdaaGreatCU30
namespace Go.Proofs.YtaopfagclnocdaaGreat
open Go.RowKit
set_option linter.unusedVariables false
set_option maxHeartbeats 64000000
set_option maxRecDepth 100000
structure StoreD where
 l:LogD
 st:StD
 sure:StD
abbrev SD:=DiskD×StoreD
def peekS (d:DiskD):Int×Int:=
 match dRead d nmHead with
 | none=>(0,6)
 | some b=>(((manDec b).1.ver:Int),(manDec b).2)
def createS (v size:Int) (d:DiskD):DiskD×Option StoreD×Int:=
 match (createD v size d).2.1 with
 | none=>((createD v size d).1,none,(createD v size d).2.2)
 | some l=>((createD v size d).1,some ⟨l,zeroSt,zeroSt⟩,0)
/-! ### Names of segments,read -/
def isDig (x:UInt8):Bool:=decide (48≤x.toNat∧x.toNat≤57)
def digN (l:List UInt8):Nat:=l.foldl (fun n x=>n * 10+(x.toNat - 48)) 0
def numD (n:ByteArray):Option Nat:=
 match n.data.toList with
 | h::t=>if h=115∧t.length=6∧t.all isDig=true∧0 < digN t then some (digN t) else none
 | []=>none
/-! ### What is no part of the log goes -/
def dirtyD (l:LogD) (n:ByteArray):Bool:=decide (n=nmFresh) || (match numD n with | some k=>!l.m.segs.contains k | none=>false)
def cleanD (l:LogD):List ByteArray→DiskD→DiskD
 | [],d=>d
 | n::r,d=>cleanD l r (if dirtyD l n=true then (dRemove d n).1 else d)
/-! ### The store's calls -/
def openS (ver size:Int) (d:DiskD):DiskD×Option StoreD×Int:=
 if (peekS d).2≠0 then (d,none,(peekS d).2)
 else if ver < (peekS d).1∨3 < ver then (d,none,10)
 else match (openL rdFr size d zeroSt).2.2.1 with
  | none=>((openL rdFr size d zeroSt).2.1,none,(openL rdFr size d zeroSt).2.2.2)
  | some l=>(cleanD l (dNames (openL rdFr size d zeroSt).2.1) (openL rdFr size d zeroSt).2.1,some ⟨l,(openL rdFr size d zeroSt).1,(openL rdFr size d zeroSt).1⟩,0)
def writeE (r:Rec) (s:SD):FrD×Int:=encRec r s.2.l.m.ver
def writeA (r:Rec) (s:SD):DL×Int:=appendL (writeE r s).1.kind (writeE r s).1.body (s.1,s.2.l)
def writeS (r:Rec) (s:SD):SD×Int:=
 if mayRec r=false∨r.kind=6 then (s,1)
 else if (applySt s.2.st r).2≠0 then (s,(applySt s.2.st r).2)
 else if (writeE r s).2≠0 then (s,(writeE r s).2)
 else if (writeA r s).2≠0 then (((writeA r s).1.1,⟨(writeA r s).1.2,s.2.st,s.2.sure⟩),(writeA r s).2)
 else (((writeA r s).1.1,⟨(writeA r s).1.2,(applySt s.2.st (inRec r (writeA r s).1.2.m.ver)).1,s.2.sure⟩),(applySt s.2.st (inRec r (writeA r s).1.2.m.ver)).2)
def syncS (s:SD):SD×Int:=
 (((syncL (s.1,s.2.l)).1.1,⟨(syncL (s.1,s.2.l)).1.2,s.2.st,if (syncL (s.1,s.2.l)).2=0 then s.2.st else s.2.sure⟩),(syncL (s.1,s.2.l)).2)
def rowsS (ver:Int) (st:StD):List FrD:=(recsSt st).map (fun r=>(encRec r ver).1)
def swapA (ver:Int) (st:StD) (s:SD):DL×Int:=swapL ver.toNat ((rowsS ver st).map frBytes) (s.1,s.2.l)
def swapS (ver:Int) (st:StD) (s:SD):SD×Int:=
 if ver < s.2.l.m.ver∨3 < ver then (s,10)
 else (((swapA ver st s).1.1,⟨(swapA ver st s).1.2,if s.2.l.m.segs=(swapA ver st s).1.2.m.segs then s.2.st else inSt ver st,if (swapA ver st s).2=0 then inSt ver st else s.2.sure⟩),(swapA ver st s).2)
/-! ### Laws of the parts -/
theorem WfR.inRec {r:Rec} (h:WfR r) (v:Int):WfR (inRec r v):=by
 have hz:WfT zeroT:=by constructor <;> decide
 have ht:WfT (plainRec r).fl.t:=by
  unfold plainRec
  split
  ·exact h.t
  ·split
   ·exact h.t
   ·repeat' split
    all_goals exact hz
 have ha:∀ b∈(plainRec r).bks,0≤b.addr∧b.addr < 4294967296:=by
  unfold plainRec
  repeat' split
  all_goals first | exact h.addr | (intro b hb;simp at hb)
 unfold Go.Proofs.YtaopfagclnocdaaGreat.inRec
 split
 ·exact⟨hz,by simp [zeroRec]⟩
 ·refine⟨?_,?_⟩
  ·simp only
   split
   ·exact ht
   ·exact ht
  ·intro b hb
   simp only [List.mem_map] at hb
   obtain⟨x,hx,rfl⟩:=hb
   rw [(inBk_id v x).2];exact ha x hx
theorem settle_loose {d:DiskD} {l:LogD} (h:(settleL (d,l)).1.2.loose=true):l.loose=true:=by
 unfold settleL at h
 simp only at h
 split at h
 ·assumption
 ·exact h
theorem append_loose {d:DiskD} {l:LogD} {Fr Fr0:List FrD} {s s0:Nat} (h:LogInv d l Fr s Fr0 s0) (kind:Int) (body:List UInt8) (hl:(appendL kind body (d,l)).1.2.loose=true) (hn:l.loose=true→Fr≠[]):Fr≠[]:=by
 by_cases h0:l.loose=true
 ·exact hn h0
 have hl0:l.loose=false:=by cases e:l.loose <;> simp_all
 intro hFr
 subst hFr
 have hset:settleL (d,l)=((d,l),0):=by unfold settleL;simp [hl0]
 have hb:bytesD d (lastS l)=0:=by
  obtain⟨C,L,k,g1,g2,g3⟩:=h.now.2.2
  have hL:L=[]:=by
   have:=congrArg List.length g2
   simp at this
   exact List.eq_nil_of_length_eq_zero (by omega)
  have hr:=g1.last.read
  rw [← lastS_eq g1.len] at hr
  unfold bytesD
  rw [hr,hL];rfl
 unfold appendL at hl
 simp only at hl
 split at hl
 ·simp [hl0] at hl
 ·rw [hset,thenD_ok (r:=((d,l),(0:Int))) rfl] at hl
  simp only at hl
  rw [if_pos (by unfold fitsL;simp [hb])] at hl
  rw [thenD_ok (r:=((d,l),(0:Int))) rfl] at hl
  unfold onDisk at hl
  simp [hl0] at hl
theorem swap_inv2 {d:DiskD} {l:LogD} {Fr Fr0:List FrD} {s s0:Nat} (h:LogInv d l Fr s Fr0 s0) (ver:Nat) (R:List FrD) (hR:∀ f∈R,FrOk f∧f.ver=ver) :
  (swapL ver (R.map frBytes) (d,l)).1.2.size=l.size ∧
  (((swapL ver (R.map frBytes) (d,l)).2=0∧(swapL ver (R.map frBytes) (d,l)).1.2.loose=false∧(swapL ver (R.map frBytes) (d,l)).1.2.m.ver=ver∧l.m.segs≠(swapL ver (R.map frBytes) (d,l)).1.2.m.segs∧Firm (swapL ver (R.map frBytes) (d,l)).1.1 (swapL ver (R.map frBytes) (d,l)).1.2.m R R.length) ∨
    ((swapL ver (R.map frBytes) (d,l)).2≠0∧(((swapL ver (R.map frBytes) (d,l)).1.2.m=l.m∧((swapL ver (R.map frBytes) (d,l)).1.2.loose=true→l.loose=true)∧LogInv (swapL ver (R.map frBytes) (d,l)).1.1 (swapL ver (R.map frBytes) (d,l)).1.2 Fr s Fr0 s0) ∨
    ((swapL ver (R.map frBytes) (d,l)).1.2.m.ver=ver∧l.m.segs≠(swapL ver (R.map frBytes) (d,l)).1.2.m.segs∧LogInv (swapL ver (R.map frBytes) (d,l)).1.1 (swapL ver (R.map frBytes) (d,l)).1.2 R R.length Fr s)))):=by
 unfold swapL
 simp only
 have h1:=settle_inv h
 have hsl:=settle_loose (d:=d) (l:=l)
 generalize settleL (d,l)=r at *
 rcases h1 with ⟨h2,h3,h4⟩|⟨h2,h3,h4⟩
 case inr=>
  rw [if_pos h2,h3]
  exact⟨rfl,Or.inr ⟨h2,Or.inl ⟨rfl,fun e=>e,h4⟩⟩⟩
 rw [if_neg (by simp [h2])]
 obtain⟨⟨d1,l1⟩,e1⟩:=r
 simp only at h2 h3 h4 ⊢
 subst h3
 have hv:=h4.valid
 have hlt:∀ x∈l.m.segs,x < l.m.next:=fun x hx=>(mayM_seg h4.now.1 hx).2.1
 have hne0:l.m.segs≠[]:=fun e=>by have:=(mayM_iff.1 h4.now.1).1.2.2.1;rw [e] at this;simp at this
 have hn1:1≤l.m.next:=(mayM_iff.1 h4.now.1).1.2.2.2.2.1
 have h5:=lay_laid (l:=⟨l.size,l.m,false⟩) h4.ok h4.now.1 R hR
 simp only at h5
 generalize layD ⟨l.size,l.m,false⟩ (R.map frBytes) d1=r2 at *
 have hdrop:∀ (d2:DiskD),Beside d1 l.m r2.1→Firm d2 l.m Fr s→Firm (dropD r2.1.2.1 d2) l.m Fr s:=fun d2 hb hf=>by
  obtain⟨o1,k1⟩:=drop_other (K:=Mine l.m.segs) r2.1.2.1 d2 hf.ok (fun x hx=>mine_not hv (fun hm=>by have:=hlt _ hm;have:=hb.mem hx;omega))
  exact hf.other (fun _ hn=>hn) o1 k1
 rcases h5 with ⟨q1,q2,q3⟩|⟨q1,q2⟩
 case inr=>
  rw [if_pos q1]
  exact⟨rfl,Or.inr ⟨q1,Or.inl ⟨rfl,(fun e=>by cases e),Or.inl ⟨rfl,hdrop _ q2 (h4.other (fun _ hn=>hn) q2.other q2.ok)⟩⟩⟩⟩
 rw [if_neg (by simp [q1])]
 have f3:=h4.other (fun _ hn=>hn) q2.beside.other q2.beside.ok
 have hS:HoldsS r2.1.1.now r2.1.1.files (swapIn ver ⟨l.size,l.m,false⟩ r2.1.2.1).segs (swapIn ver ⟨l.size,l.m,false⟩ r2.1.2.1).ver R R.length:=by
  rcases q2.held with ⟨e,_⟩|⟨C,L,k,g1,rfl,g3,g4⟩
  ·exact absurd e q3
  ·exact⟨C,L,k,g1,rfl,by rw [List.length_append];have:=g4 rfl;omega⟩
 have hc:=commit_firm f3 hS
 unfold adoptL
 simp only
 have hbb:=q2.beside
 have hsne:l.m.segs≠r2.1.2.1:=fun e=>by
  obtain⟨x,hx⟩:=List.exists_mem_of_ne_nil _ hne0
  have g1:=hlt x hx
  rw [e] at hx
  have g2:=hbb.mem hx
  (try simp only at g2)
  omega
 generalize hm':swapIn ver ⟨l.size,l.m,false⟩ r2.1.2.1=m' at *
 have hsegs:m'.segs=r2.1.2.1:=by rw [← hm'];rfl
 have hver:m'.ver=ver:=by rw [← hm'];rfl
 generalize commitD m' r2.1.1=r3 at *
 rcases hc with ⟨b1,b2,b3⟩|⟨b1,b2,b3,b4⟩|⟨b1,b2,b3⟩
 ·rw [if_neg b2,if_neg (by rw [b1];simp),if_neg (by rw [b1];simp)]
  exact⟨rfl,Or.inr ⟨b2,Or.inl ⟨rfl,(fun e=>by cases e),Or.inl ⟨rfl,hdrop _ hbb b3⟩⟩⟩⟩
 ·rw [if_pos b2,if_pos b1]
  obtain⟨o1,k1⟩:=remove_other (K:=Mine m'.segs) l.m.segs r3.1 b4.ok (fun x hx=>mine_not b4.valid (fun hm=>by rw [hsegs] at hm;have:=hlt _ hx;have:=hbb.mem hm;omega))
  exact⟨rfl,Or.inl ⟨rfl,by simp [b2],hver,by rw [hsegs];exact hsne,b4.other (fun _ hn=>hn) o1 k1⟩⟩
 ·rw [if_neg b2,if_pos b1,if_pos b1]
  exact⟨rfl,Or.inr ⟨b2,Or.inr ⟨hver,by rw [hsegs];exact hsne,Or.inr ⟨by simp [b2],b3⟩⟩⟩⟩
/-! ### What holds of it -/
structure SoInv (s:SD) (Fr:List FrD) (k:Nat) (Fr0:List FrD) (k0:Nat):Prop where
 log:LogInv s.1 s.2.l Fr k Fr0 k0
 st:rdAll Fr zeroSt=(s.2.st,0)
 ok:OkSt s.2.st
 oks:OkSt s.2.sure
 ne:s.2.l.loose=true→Fr≠[]
theorem SoInv.ver {s:SD} {Fr:List FrD} {k:Nat} {Fr0:List FrD} {k0:Nat} (h:SoInv s Fr k Fr0 k0):verOk (s.2.l.m.ver:Int)=true:=by
 have:=h.log.now.1
 have:=(mayM_iff.1 this).1
 unfold verOk;simp;omega
theorem SoInv.write {s:SD} {Fr:List FrD} {k:Nat} {Fr0:List FrD} {k0:Nat} (h:SoInv s Fr k Fr0 k0) {r:Rec} (wr:WfR r) :
  (writeS r s).1.2.l.size=s.2.l.size∧(writeS r s).1.2.l.m.ver=s.2.l.m.ver∧(writeS r s).1.2.sure=s.2.sure ∧
  (((writeS r s).2=0∧∃ f,SoInv (writeS r s).1 (Fr++[f]) k (Fr++[f]) k∧(writeS r s).1.2.l.loose=false) ∨
    ((writeS r s).2≠0∧(writeS r s).1.2.st=s.2.st∧(SoInv (writeS r s).1 Fr k Fr0 k0∨SoInv (writeS r s).1 Fr k Fr k))):=by
 have hv:=h.ver
 unfold writeS
 by_cases c1:mayRec r=false∨r.kind=6
 ·rw [if_pos c1];exact⟨rfl,rfl,rfl,Or.inr ⟨by simp,rfl,Or.inl h⟩⟩
 rw [if_neg c1]
 have hm:mayRec r=true:=by cases e:mayRec r <;> simp_all
 have h6:r.kind≠6:=fun e=>c1 (Or.inr e)
 by_cases c2:(applySt s.2.st r).2=0
 case neg=>rw [if_pos c2];exact⟨rfl,rfl,rfl,Or.inr ⟨c2,rfl,Or.inl h⟩⟩
 rw [if_neg (by simp [c2])]
 have he:=dec_enc wr hv hm
 have c3:(writeE r s).2=0:=he.1
 rw [if_neg (by simp [c3])]
 have hfr:=rdFr_enc (s:=s.2.st) wr hv hm h6
 have hai:=apply_in (s:=s.2.st) hv c2
 have hok:=enc_ok (r:=r) (v:=s.2.l.m.ver) he.1
 have ha:=append_inv h.log ((writeE r s).1.kind:Int) (writeE r s).1.body
 rw [show appendL ((writeE r s).1.kind:Int) (writeE r s).1.body (s.1,s.2.l)=writeA r s from rfl] at ha
 obtain⟨a1,a2,a3⟩:=ha
 have hft:(⟨((writeE r s).1.kind:Int).toNat,s.2.l.m.ver,(writeE r s).1.body⟩:FrD)=(encRec r s.2.l.m.ver).1:=by
  have h2:=hok.2.1
  show (⟨((encRec r s.2.l.m.ver).1.kind:Int).toNat,s.2.l.m.ver,(encRec r s.2.l.m.ver).1.body⟩:FrD)=(encRec r s.2.l.m.ver).1
  generalize encRec r s.2.l.m.ver=y at h2 ⊢
  rcases y with ⟨⟨a,b,c⟩,e⟩
  simp only [Int.toNat_natCast] at h2 ⊢
  subst h2;rfl
 rw [hft] at a3
 by_cases c4:(writeA r s).2=0
 case neg=>
  rw [if_pos c4]
  refine⟨a1,a2,rfl,Or.inr ⟨c4,rfl,?_⟩⟩
  rcases a3 with ⟨e,_⟩|⟨_,g | g⟩
  ·exact absurd e c4
  ·exact Or.inl ⟨g,h.st,h.ok,h.oks,fun e=>append_loose h.log _ _ e h.ne⟩
  ·exact Or.inr ⟨g,h.st,h.ok,h.oks,fun e=>append_loose h.log _ _ e h.ne⟩
 rw [if_neg (by simp [c4]),a2]
 refine⟨a1,rfl,rfl,Or.inl ⟨hai,(encRec r s.2.l.m.ver).1,?_⟩⟩
 rcases a3 with ⟨_,g1,g2⟩|⟨e,_⟩
 ·refine⟨⟨Or.inl ⟨g1,g2⟩,?_,?_,h.oks,fun _=>by simp⟩,g1⟩
  ·rw [rdAll_app,h.st,if_neg (by simp)]
   show (if (rdFr s.2.st _).2≠0 then rdFr s.2.st _ else rdAll [] (rdFr s.2.st _).1)=_
   rw [hfr,if_neg (by simp [hai])]
   show ((applySt s.2.st (inRec r s.2.l.m.ver)).1,(0:Int))=_
   rfl
  ·exact h.ok.apply (WfR.inRec wr _)
 ·exact absurd c4 e
theorem rows_ok {st:StD} (h:OkSt st) {v:Int} (hv:verOk v=true):∀ f∈rowsS v st,FrOk f∧f.ver=v.toNat:=by
 intro f hf
 obtain⟨r,hr,rfl⟩:=List.mem_map.1 hf
 obtain⟨w1,w2,w3⟩:=WfR.recs h r hr
 have:=enc_ok (dec_enc w1 hv w2).1
 exact⟨this.1,this.2.1⟩
/-! ### Where nothing fails -/
structure SoRm (s:SD) (Fr:List FrD) (k n:Nat):Prop where
 inv:SoInv s Fr k Fr k
 loose:s.2.l.loose=false
 rm:Rm s.1 (600 * n) (2 * n)
 segs:s.2.l.m.segs.length+n≤64
 next:s.2.l.m.next+n≤1000000
theorem SoInv.firm {s:SD} {Fr:List FrD} {k:Nat} {Fr0:List FrD} {k0:Nat} (h:SoInv s Fr k Fr0 k0) (hl:s.2.l.loose=false):Firm s.1 s.2.l.m Fr k:=by
 rcases h.log with ⟨_,g⟩|⟨e,_⟩
 ·exact g
 ·rw [hl] at e;cases e
theorem writeS_ok {r:Rec} {s:SD} (h:(writeS r s).2=0):mayRec r=true∧(writeS r s).1.1=(writeA r s).1.1∧(writeS r s).1.2.l=(writeA r s).1.2:=by
 unfold writeS at h ⊢
 by_cases c1:mayRec r=false∨r.kind=6
 ·rw [if_pos c1] at h;simp at h
 rw [if_neg c1] at h ⊢
 have hm:mayRec r=true:=by cases e:mayRec r <;> simp_all
 by_cases c2:(applySt s.2.st r).2=0
 case neg=>rw [if_pos c2] at h;exact absurd h c2
 rw [if_neg (by simp [c2])] at h ⊢
 by_cases c3:(writeE r s).2=0
 case neg=>rw [if_pos c3] at h;exact absurd h c3
 rw [if_neg (by simp [c3])] at h ⊢
 by_cases c4:(writeA r s).2=0
 case neg=>rw [if_pos c4] at h;exact absurd h c4
 rw [if_neg (by simp [c4])]
 exact⟨hm,rfl,rfl⟩
theorem SoRm.app {s:SD} {Fr:List FrD} {k n:Nat} (h:SoRm s Fr k (n+1)) {r:Rec} (wr:WfR r) (hm:mayRec r=true) :
  (writeA r s).2=0∧Rm (writeA r s).1.1 (600 * n) (2 * n)∧(writeA r s).1.2.m.segs.length≤s.2.l.m.segs.length+1∧(writeA r s).1.2.m.next≤s.2.l.m.next+1:=by
 have hv:=h.inv.ver
 have hb:(writeE r s).1.body.length≤200:=by
  show (encRec r s.2.l.m.ver).1.body.length≤200
  unfold encRec
  rw [if_neg (by simp [hv]),if_neg (by simp [hm])]
  exact recBody_length _ hm
 have hok:=(enc_ok (r:=r) (v:=s.2.l.m.ver) (dec_enc wr hv hm).1).1
 have hk:(writeE r s).1.kind < 256:=hok.kind
 have hver:s.2.l.m.ver≤255:=by have:=h.inv.ver;unfold verOk at this;simp at this;omega
 have hp:putErr (writeE r s).1.kind s.2.l.m.ver (writeE r s).1.body.length=0:=by
  unfold putErr
  rw [if_neg (by omega),if_neg (by omega)]
 exact append_rm (h.inv.firm h.loose) h.loose _ _ (B:=600 * n) (n:=2 * n) (h.rm.le (by omega) (by omega)) (by have:=h.segs;omega) (by have:=h.next;omega) hp
theorem writeS_err {r:Rec} {s:SD} (hv:verOk (s.2.l.m.ver:Int)=true) (ha:mayRec r=true→(writeA r s).2=0∧(writeA r s).1.2.m.ver=s.2.l.m.ver) (h:(writeS r s).2≠0):(writeS r s).1=s:=by
 unfold writeS at h ⊢
 by_cases c1:mayRec r=false∨r.kind=6
 ·rw [if_pos c1]
 rw [if_neg c1] at h ⊢
 have hm:mayRec r=true:=by cases e:mayRec r <;> simp_all
 by_cases c2:(applySt s.2.st r).2=0
 case neg=>rw [if_pos c2]
 rw [if_neg (by simp [c2])] at h ⊢
 by_cases c3:(writeE r s).2=0
 case neg=>rw [if_pos c3]
 rw [if_neg (by simp [c3])] at h ⊢
 rw [if_neg (by simp [(ha hm).1])] at h ⊢
 rw [(ha hm).2] at h
 exact absurd (apply_in hv c2) h
theorem SoRm.write {s:SD} {Fr:List FrD} {k n:Nat} (h:SoRm s Fr k (n+1)) {r:Rec} (wr:WfR r) :
  (writeS r s).1.2.l.size=s.2.l.size∧(writeS r s).1.2.l.m.ver=s.2.l.m.ver∧(writeS r s).1.2.sure=s.2.sure ∧
  (((writeS r s).2=0∧∃ f,SoRm (writeS r s).1 (Fr++[f]) k n)∨((writeS r s).2≠0∧(writeS r s).1=s)):=by
 obtain⟨a1,a2,a3,a4⟩:=h.inv.write wr
 refine⟨a1,a2,a3,?_⟩
 rcases a4 with ⟨e,f,g1,g2⟩|⟨e,_,_⟩
 ·obtain⟨e1,e2,e3⟩:=writeS_ok e
  obtain⟨b1,b2,b3,b4⟩:=h.app wr e1
  refine Or.inl ⟨e,f,g1,g2,by rw [e2];exact b2,?_,?_⟩
  ·rw [e3];have:=h.segs;omega
  ·rw [e3];have:=h.next;omega
 ·refine Or.inr ⟨e,writeS_err h.inv.ver (fun hm=>⟨(h.app wr hm).1,?_⟩) e⟩
  exact (append_inv h.inv.log ((writeE r s).1.kind:Int) (writeE r s).1.body).2.1
theorem SoRm.less {s:SD} {Fr:List FrD} {k n n':Nat} (h:SoRm s Fr k n) (hn:n'≤n):SoRm s Fr k n':=
 ⟨h.inv,h.loose,h.rm.le (by omega) (by omega),by have:=h.segs;omega,by have:=h.next;omega⟩
theorem nil_inv {l:LogD} {d:DiskD} (hl:l.loose=false) (h:Firm d l.m [] 0):SoInv (d,⟨l,zeroSt,zeroSt⟩) [] 0 [] 0:=⟨Or.inl ⟨hl,h⟩,rfl,OkSt.zero,OkSt.zero,fun e=>by rw [show _=l.loose from rfl,hl] at e;cases e⟩
theorem SoRm.start {v:Int} (hv:1≤v∧v≤3) (size:Int) (q:Int) (n:Nat) (hq:600 * (n:Int)+278≤q∧q≤1048576) (hn:n≤62) :
  ∃ s:SD,createS v size (dNew q)=(s.1,some s.2,0)∧SoRm s [] 0 n∧s.2.st=zeroSt∧s.2.sure=zeroSt∧(s.2.l.m.ver:Int)=v∧s.2.l.size=sized size:=by
 have hq':(dNew q).quota=q.toNat:=by
  show (max 0 (min q 67108864)).toNat=q.toNat
  omega
 obtain⟨d',h1,h2,h3⟩:=create_rm (d:=dNew q) (B:=600 * n) (n:=2 * n) (dNew_ok q) ⟨rfl,by rw [hq'];show 0+_≤_;omega,by show 0+_≤200;omega,by rw [hq'];omega⟩ rfl (v:=v.toNat) (by omega) size
 have hvt:(v.toNat:Int)=v:=by omega
 rw [hvt] at h1
 refine⟨(d',⟨⟨sized size,firstM v.toNat,false⟩,zeroSt,zeroSt⟩),?_,⟨nil_inv rfl h2,rfl,h3,?_,?_⟩,rfl,rfl,hvt,rfl⟩
 ·unfold createS;rw [h1]
 ·show 1+n≤64;omega
 ·show 2+n≤1000000;omega
abbrev soC (lb stb:Nat) (g:Int) (bv dv fv:Value):Array Value:=#[dptr lb,pR stb,.int .i64 g,bv,dv,fv]
def SoR (sb lb stb:Nat) (bv dv fv:Value) (s:StD):List Asrt:=[Cells sb (soC lb stb s.gen bv dv fv) 82,BkR bv s.bks,DrR dv s.drs,FlR fv s.fls]
theorem SoR.framed {sb lb stb:Nat} {bv dv fv:Value} {s:StD}:∀ A∈SoR sb lb stb bv dv fv s,Framed A:=by
 intro A hA
 simp only [SoR,List.mem_cons,List.not_mem_nil,or_false] at hA
 rcases hA with rfl | rfl | rfl | rfl
 ·exact Cells.framed _ _ _
 ·exact RowA.framed _ _ _ _ _
 ·exact RowA.framed _ _ _ _ _
 ·exact RowA.framed _ _ _ _ _
def SoA (sb lb stb:Nat) (s:StD):Asrt:=fun w F=>∃ bv dv fv,Star (SoR sb lb stb bv dv fv s) w F
theorem SoA.framed (sb lb stb:Nat) (s:StD):Framed (SoA sb lb stb s):=by
 refine⟨?_,?_⟩
 ·rintro w w' F ⟨bv,dv,fv,h2⟩ hk;exact⟨bv,dv,fv,(Framed.star SoR.framed).keep h2 hk⟩
 ·rintro w F ⟨bv,dv,fv,h2⟩;exact (Framed.star SoR.framed).lt h2
abbrev SoL (sb lb bd stb:Nat) (s:SD) (R:List Asrt):List Asrt:=SoA sb lb stb s.2.sure::LgA lb bd s.2.l::DkA bd s.1::StA stb s.2.st::R
section
variable {F0:List Nat} {w0 w:World} {R:List Asrt} {sb lb stb:Nat} {s:StD}
theorem In.soOpen (h:In F0 w0 w (SoA sb lb stb s::R)):∃ A a D d F f,In F0 w0 w (Cells sb (soC lb stb s.gen (.slice A s.bks.length a) (.slice D s.drs.length d) (.slice F s.fls.length f)) 82::BkR (.slice A s.bks.length a) s.bks::DrR (.slice D s.drs.length d) s.drs::FlR (.slice F s.fls.length f) s.fls::R):=by
 obtain⟨F,⟨F1,F2,⟨bv,dv,fv,h1⟩,h2,h3,rfl⟩,hF⟩:=h.star
 have h4:In F0 w0 w (SoR sb lb stb bv dv fv s++R):=by
  refine⟨fun B hB=>?_,⟨_,star_backS h1 h2 h3,hF⟩,h.mod⟩
  rcases List.mem_append.1 hB with hB | hB
  ·exact SoR.framed _ hB
  ·exact h.framed B (List.mem_cons_of_mem _ hB)
 obtain⟨Fv,rv⟩:=h4.get 1 rfl
 obtain⟨A,a,rfl,-,-,-⟩:=RowA.shape rv
 obtain⟨Fu,ru⟩:=h4.get 2 rfl
 obtain⟨D,d,rfl,-,-,-⟩:=RowA.shape ru
 obtain⟨Ft,rt⟩:=h4.get 3 rfl
 obtain⟨G,f,rfl,-,-,-⟩:=RowA.shape rt
 exact⟨A,a,D,d,G,f,h4⟩
theorem In.soClose {bv dv fv:Value} (h:In F0 w0 w (Cells sb (soC lb stb s.gen bv dv fv) 82::BkR bv s.bks::DrR dv s.drs::FlR fv s.fls::R)):In F0 w0 w (SoA sb lb stb s::R):=
 (In.join (A1:=SoR sb lb stb bv dv fv s) (R:=R) h).imp (A':=SoA sb lb stb s) 0 rfl (SoA.framed _ _ _ _) (fun F hF=>⟨bv,dv,fv,hF⟩)
end
section
variable {F0:List Nat} {w0 w:World} {R:List Asrt} {sb lb bd stb:Nat} {v:StD}
def ViewPost (v:StD) (F0:List Nat) (w0:World) (R:List Asrt) (e:Ending) (w':World):Prop:=∃ A a D d F f,e=.returned (agSt v A a D d F f)∧In F0 w0 w' (BkR (.slice A v.bks.length a) v.bks::DrR (.slice D v.drs.length d) v.drs::FlR (.slice F v.fls.length f) v.fls::R)
theorem there_at {W:World} {b:Nat} {C:Array Value} {T:TypeId} (h:W.heap[b]?=some (.cells C T (0,0))) (o m:Nat) (hm:o+m≤C.size):W.there b o m:=fun j hj=>by
 refine⟨?_,free_of h⟩
 rw [cell_of h (Array.getElem?_eq_getElem (by omega))];rfl
theorem o_stview' {s:StD} (h:In F0 w0 w (StA sb s::R)):Calls Tryz.prog 16 #[pR sb] w (ViewPost s F0 w0 (StA sb s::R)):=o_stview h
theorem o_sostate (h:In F0 w0 w (SoA sb lb stb v::R)):Calls Tryz.prog 15 #[pR sb] w fun e w'=>e=.returned (pR stb)∧w'=w:=by
 obtain⟨A,a,D,d,F,f,g0⟩:=h.soOpen
 have c0:w.cell? ⟨sb,1,none⟩=some (pR stb):=cell_of (g0.block 0 rfl) rfl
 clear h g0
 go_enter Tryz.func15,Tryz.ntmps15
 go_wp2_with fail
 go_ret
 exact⟨rfl,rfl⟩
theorem o_soversion {l:LogD} (h:In F0 w0 w (SoA sb lb stb v::LgA lb bd l::R)):Calls Tryz.prog 73 #[pR sb] w fun e w'=>e=.returned (.int .i64 l.m.ver)∧w'=w:=by
 obtain⟨A,a,D,d,F,f,g0⟩:=h.soOpen
 have c0:w.cell? ⟨sb,0,none⟩=some (dptr lb):=cell_of (g0.block 0 rfl) rfl
 have K:=Lib.hid (o_version h.drop)
 clear h g0
 go_enter Tryz.func73,Tryz.ntmps73
 go_wp2_with fail
 refine K.out.mono ?_
 rintro e w1 ⟨rfl,rfl⟩
 go_wp2_with fail
 go_ret
 exact⟨rfl,rfl⟩
end
section
variable {F0:List Nat} {w0 w:World} {R:List Asrt} {stb:Nat} {s:StD}
end
section
variable {F0:List Nat} {w0 w:World} {R:List Asrt}
abbrev IntsR (v:Value) (l:List Nat):Asrt:=RowA 3 1 v l.length (segV l)
theorem segV_ones (l:List Nat):∀ u∈segV l,u.oneCell'=true:=by
 intro u hu
 simp only [segV,List.mem_map] at hu
 obtain⟨s,_,rfl⟩:=hu;rfl
theorem icl_some (h:In F0 w0 w R) {ad:Addr} {l:List Nat} {c:Nat} (hs:Src w (some ad) l.length 1 (segV l)) (hn:l.length≤1000000) :
  Calls Tryz.prog 125 #[.slice (some ad) l.length c] w fun e w'=>∃ a c',e=.returned (.slice a l.length c')∧In F0 w0 w' (IntsR (.slice a l.length c') l::R):=by
 have HH:=Lib.hid h
 have HS:=Lib.hid hs
 clear h hs
 have hq:∀ (w:World) (a:Option Addr) (n c n' c':Nat),(binOp .eql 105 (.slice a n c) (.slice none n' c')).run Tryz.prog w=.ok (.bool a.isNone) w:=fun w a n c n' c'=>Lib.run_eql_slice_nil w _ _ a n c n' c' Tryz.underlying105
 go_enter Tryz.func125,Tryz.ntmps125
 go_wp2_with (at_builtin;refine app_list rfl ((HH.out.cells #[] 3).row0 (k:=1) 0 rfl) 0 rfl (.tmp 5) (.tmp 6) 105 (by rfl) Tryz.underlying105 infoInt (by decide) (by decide) (by rfl) (by rfl) (src_alloc HS.out _) (segV_ones _) (by omega) ?_)
 intro v' w3 ho hg
 have ho':In F0 w0 w3 (IntsR v' l::R):=by simpa using ho
 obtain⟨Fv,rv⟩:=ho'.get 0 rfl
 obtain⟨a,c',rfl,-,-,-⟩:=RowA.shape rv
 have HO:=Lib.hid ho'
 clear ho hg ho' rv
 go_wp2_with fail
 go_ret
 exact⟨_,_,rfl,HO.out⟩
theorem icl_none (h:In F0 w0 w R):Calls Tryz.prog 125 #[.slice none 0 0] w fun e w'=>∃ a c',e=.returned (.slice a 0 c')∧In F0 w0 w' (IntsR (.slice a 0 c') []::R):=by
 have HH:=Lib.hid (h.rownil 3 1)
 clear h
 have hq:∀ (w:World) (a:Option Addr) (n c n' c':Nat),(binOp .eql 105 (.slice a n c) (.slice none n' c')).run Tryz.prog w=.ok (.bool a.isNone) w:=fun w a n c n' c'=>Lib.run_eql_slice_nil w _ _ a n c n' c' Tryz.underlying105
 go_enter Tryz.func125,Tryz.ntmps125
 go_wp2_with fail
 go_ret
 exact⟨_,_,rfl,HH.out⟩
theorem o_iclone (h:In F0 w0 w R) {A:Option Addr} {c:Nat} {l:List Nat} (hn:A=none→c=0) (hs:Src w A l.length 1 (segV l)) (hl:l.length≤1000000) :
  Calls Tryz.prog 125 #[.slice A l.length c] w fun e w'=>∃ a c',e=.returned (.slice a l.length c')∧In F0 w0 w' (IntsR (.slice a l.length c') l::R):=by
 cases A with
 | none=>
  obtain rfl:=hn rfl
  have:l=[]:=by
   cases l with
   | nil=>rfl
   | cons b l=>obtain⟨ad,e,_⟩:=hs.at' (by simp);cases e
  subst this
  exact icl_none h
 | some ad=>exact icl_some h hs hl
theorem segV_ix {l:List Nat} {k x:Nat} (h:l[k]?=some x):(segV l)[k]?=some (.int .i64 (x:Int)):=by simp [segV,h]
def IdxIRel (l:List Nat) (x:Nat) (w:World) (i:Value) (wr:World):Prop:=∃ k:Nat,k≤l.length∧i=.int .i64 k∧(∀ y∈l.take k,y≠x)∧wr=w
theorem o_iidx {A:Option Addr} {c:Nat} {l:List Nat} {x:Nat} (hs:Src w A l.length 1 (segV l)) (hl:l.length≤1000000) :
  Calls Tryz.prog 198 #[.slice A l.length c,.int .i64 x] w fun e w'=>∃ z:Int,e=.returned (.int .i64 z)∧decide (0≤z)=l.contains x∧w'=w:=by
 have HR:Hid (IdxIRel l x w (.int .i64 0) w):=Lib.hid ⟨0,Nat.zero_le _,rfl,by simp,rfl⟩
 have HS:=Lib.hid hs
 clear hs
 go_enter Tryz.func198,Tryz.ntmps198
 go_wp2_with fail
 go_loopw [8] (IdxIRel l x w) (fun k _=>l.length - (intOf k).toNat)
 case atStart=>exact HR.out
 case round=>
  obtain⟨k,hk,rfl,ht,rfl⟩:=hrel
  clear HR
  by_cases hlt:k < l.length
  ·obtain⟨y,hy⟩:∃ y,l[k]?=some y:=⟨l[k],List.getElem?_eq_getElem hlt⟩
   obtain⟨g1,o1,rfl,s1⟩:=HS.out.plain (by omega) (by decide)
   have c0:=s1 k _ (segV_ix hy)
   have hlt':(k:Int) < (l.length:Int):=Int.ofNat_lt.2 hlt
   have hw2:wrap64 ((k:Int)+1)=(k:Int)+1:=by unfold wrap64;omega
   by_cases hxy:y=x
   ·have q:((x:Int) == (y:Int))=true:=by rw [beq_iff_eq];omega
    have HC:Hid (decide ((0:Int)≤(k:Int))=l.contains x):=Lib.hid (by
     rw [decide_eq_true (by omega)]
     symm
     simp only [List.contains_eq_mem,decide_eq_true_eq]
     rw [← hxy];exact List.mem_of_getElem? hy)
    clear s1 hy ht hk hlt hxy HS
    go_wp2_with fail
    go_ret
    exact⟨_,rfl,HC.out,rfl⟩
   ·have q:((x:Int) == (y:Int))=false:=by rw [beq_eq_false_iff_ne];omega
    have HR:Hid (IdxIRel l x wr (.int .i64 ((k:Int)+1)) wr):=Lib.hid ⟨k+1,(List.getElem?_eq_some_iff.1 hy).1,by rw [Int.natCast_add];rfl,by
     intro z hz
     rw [List.take_add_one,hy] at hz
     rcases List.mem_append.1 hz with hz | hz
     ·exact ht z hz
     ·simp at hz;rw [hz];exact hxy,rfl⟩
    clear s1 hy ht hk hlt hxy
    go_wp2_with fail
    go_roundw
    case rel=>(try rw [hw2]);exact HR.out
    case measure=>(try rw [hw2]);exact meas_lt hlt'
  ·have hge:(l.length:Int)≤(k:Int):=Int.ofNat_le.2 (Nat.le_of_not_lt hlt)
   have HC:Hid (decide ((0:Int)≤-1)=l.contains x):=Lib.hid (by
    rw [decide_eq_false (by omega)]
    symm
    simp only [List.contains_eq_mem,decide_eq_false_iff_not]
    rw [List.take_of_length_le (Nat.le_of_not_lt hlt)] at ht
    exact fun hm=>ht x hm rfl)
   clear ht hk hlt
   go_wp2_with fail
   go_ret
   exact⟨_,rfl,HC.out,rfl⟩
theorem o_ieq {l1 l2:List Nat} {A1 A2:Option Addr} {c1 c2:Nat} (h1:Segs F0 w0 R A1 l1) (h2:Segs F0 w0 R A2 l2) (hl:l1.length≤1000000) (h:In F0 w0 w R):Calls Tryz.prog 154 #[.slice A1 l1.length c1,.slice A2 l2.length c2] w fun e w'=>e=.returned (.bool (decide (l1=l2)))∧In F0 w0 w' R:=by
 by_cases hlen:l1.length=l2.length
 case neg=>
  have hd:decide (l1=l2)=false:=decide_eq_false (fun e=>hlen (by rw [e]))
  have q:((l1.length:Int) != (l2.length:Int))=true:=by rw [bne_iff_ne];omega
  have G:=Lib.hid h
  rw [hd]
  clear h h1 h2 hlen hd hl
  go_enter Tryz.func154,Tryz.ntmps154
  go_wp2_with fail
  go_ret
  exact⟨rfl,G.out⟩
 have HA:=Lib.hid h1
 have HB:=Lib.hid h2
 have HR:Hid (EqRel l1 l2 F0 w0 R (.int .i64 0) w):=Lib.hid ⟨0,Nat.zero_le _,rfl,rfl,h⟩
 have HLN:=Lib.hid hlen
 have q:((l1.length:Int) != (l2.length:Int))=false:=by simp [hlen]
 clear h h1 h2 hlen
 go_enter Tryz.func154,Tryz.ntmps154
 go_wp2_with fail
 go_loopw [13] (EqRel l1 l2 F0 w0 R) (fun k _=>l1.length - (intOf k).toNat)
 case atStart=>exact HR.out
 case round=>
  obtain⟨k,hk,rfl,ht,ho⟩:=hrel
  clear HR
  by_cases hlt:k < l1.length
  ·obtain⟨x,hx⟩:∃ x,l1[k]?=some x:=⟨l1[k],List.getElem?_eq_getElem hlt⟩
   obtain⟨y,hy⟩:∃ y,l2[k]?=some y:=⟨l2[k]'(by rw [← HLN.out];exact hlt),List.getElem?_eq_getElem _⟩
   obtain⟨g1,o1,rfl,s1⟩:=(HA.out wr ho).plain (by omega) (by decide)
   obtain⟨g2,o2,rfl,s2⟩:=(HB.out wr ho).plain (by rw [← HLN.out];omega) (by decide)
   have c0:=s1 k _ (segV_ix hx)
   have d0:=s2 k _ (segV_ix hy)
   have hlt':(k:Int) < (l1.length:Int):=Int.ofNat_lt.2 hlt
   have hltb:(k:Int) < (l2.length:Int):=by rw [← HLN.out];exact hlt'
   have hw2:wrap64 ((k:Int)+1)=(k:Int)+1:=by unfold wrap64;omega
   clear s1 s2
   by_cases hxy:x=y
   ·have HN:Hid (∀ n,EqRel l1 l2 F0 w0 R (.int .i64 ((k:Int)+1)) (wr.drewN n)):=Lib.hid fun n=>eq_step hx hy ht hxy (ho.drewN n)
    have q2:((x:Int) != (y:Int))=false:=by simp [hxy]
    clear ho hx hy ht hk hlt hxy HA HB HLN
    go_wp2_with fail
    go_quiet (fail)
    go_wp2_with fail
    go_roundw
    case rel=>(try rw [hw2]);exact HN.out _
    case measure=>(try rw [hw2]);exact meas_lt hlt'
   ·have HD:Hid (decide (l1=l2)=false):=Lib.hid (by
     rw [decide_eq_false_iff_not]
     intro e;rw [e,hy] at hx;exact hxy (Option.some.inj hx).symm)
    have HN:=Lib.hid fun n=>ho.drewN n
    have q2:((x:Int) != (y:Int))=true:=by rw [bne_iff_ne];omega
    clear ho hx hy ht hk hlt hxy HA HB HLN
    go_wp2_with fail
    go_quiet (fail)
    go_wp2_with fail
    go_ret
    exact⟨by rw [HD.out];rfl,HN.out _⟩
  ·have hge:(l1.length:Int)≤(k:Int):=Int.ofNat_le.2 (Nat.le_of_not_lt hlt)
   have HD:Hid (decide (l1=l2)=true):=Lib.hid (by
    rw [decide_eq_true_eq]
    rw [List.take_of_length_le (Nat.le_of_not_lt hlt),List.take_of_length_le (by rw [← HLN.out];exact Nat.le_of_not_lt hlt)] at ht
    exact ht)
   have HN:=Lib.hid ho
   clear ho ht hk hlt HA HB HLN
   go_wp2_with fail
   go_ret
   exact⟨by rw [HD.out];rfl,HN.out⟩
end
end Go.Proofs.YtaopfagclnocdaaGreat
