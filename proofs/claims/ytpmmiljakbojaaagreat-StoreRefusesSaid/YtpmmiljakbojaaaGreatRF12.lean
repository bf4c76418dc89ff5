/- Rows.StoreRefusesSaid -/
import Derived.Test.YtpmmiljakbojaaaGreatRF6
import Derived.Test.YtpmmiljakbojaaaGreatRF11
import Derived.Test.YtpmmiljakbojaaaGreatRF5
import Derived.Deep.RegionHeld3
import Derived.StillTailTactics
namespace Go.Proofs.YtpmmiljakbojaaaGreat
open Go.RowKit
set_option linter.unusedVariables false
set_option maxHeartbeats 64000000
set_option maxRecDepth 100000
structure StoreD where
 l:LogD
 st:StD
 sure:StD
abbrev SD:=DiskD×StoreD
def peekS (d:DiskD):Int×Int:=
 match dRead d nmHead with
 | none=>(0,6)
 | some b=>(((manDec b).1.ver:Int),(manDec b).2)
def createS (v size:Int) (d:DiskD):DiskD×Option StoreD×Int:=
 match (createD v size d).2.1 with
 | none=>((createD v size d).1,none,(createD v size d).2.2)
 | some l=>((createD v size d).1,some ⟨l,zeroSt,zeroSt⟩,0)
/-! ### Names of segments,read -/
def isDig (x:UInt8):Bool:=decide (48≤x.toNat∧x.toNat≤57)
def digN (l:List UInt8):Nat:=l.foldl (fun n x=>n * 10+(x.toNat - 48)) 0
def numD (n:ByteArray):Option Nat:=
 match n.data.toList with
 | h::t=>if h=115∧t.length=6∧t.all isDig=true∧0 < digN t then some (digN t) else none
 | []=>none
theorem digN_snoc (l:List UInt8) (x:UInt8):digN (l++[x])=digN l * 10+(x.toNat - 48):=by simp [digN]
/-! ### What is no part of the log goes -/
def dirtyD (l:LogD) (n:ByteArray):Bool:=decide (n=nmFresh) || (match numD n with | some k=>!l.m.segs.contains k | none=>false)
def cleanD (l:LogD):List ByteArray→DiskD→DiskD
 | [],d=>d
 | n::r,d=>cleanD l r (if dirtyD l n=true then (dRemove d n).1 else d)
theorem cleanD_snoc (l:LogD):∀ (L:List ByteArray) (n:ByteArray) (d:DiskD),cleanD l (L++[n]) d=if dirtyD l n=true then (dRemove (cleanD l L d) n).1 else cleanD l L d
 | [],n,d=>rfl
 | x::r,n,d=>cleanD_snoc l r n _
theorem clean_ops (l:LogD):∀ (L:List ByteArray) (d:DiskD),(cleanD l L d).ops≤d.ops+L.length
 | [],d=>Nat.le_refl _
 | n::r,d=>by
  have h1:=clean_ops l r (if dirtyD l n=true then (dRemove d n).1 else d)
  have h2:(if dirtyD l n=true then (dRemove d n).1 else d).ops≤d.ops+1:=by
   split
   ·have:=(dOps d n n [] 0).2.2.2.2.1;omega
   ·omega
  show (cleanD l r _).ops≤d.ops+(r.length+1)
  omega
/-! ### The store's calls -/
def openS (ver size:Int) (d:DiskD):DiskD×Option StoreD×Int:=
 if (peekS d).2≠0 then (d,none,(peekS d).2)
 else if ver < (peekS d).1∨3 < ver then (d,none,10)
 else match (openL rdFr size d zeroSt).2.2.1 with
  | none=>((openL rdFr size d zeroSt).2.1,none,(openL rdFr size d zeroSt).2.2.2)
  | some l=>(cleanD l (dNames (openL rdFr size d zeroSt).2.1) (openL rdFr size d zeroSt).2.1,some ⟨l,(openL rdFr size d zeroSt).1,(openL rdFr size d zeroSt).1⟩,0)
def writeE (r:Rec) (s:SD):FrD×Int:=encRec r s.2.l.m.ver
def writeA (r:Rec) (s:SD):DL×Int:=appendL (writeE r s).1.kind (writeE r s).1.body (s.1,s.2.l)
def writeS (r:Rec) (s:SD):SD×Int:=
 if mayRec r=false∨r.kind=6 then (s,1)
 else if (applySt s.2.st r).2≠0 then (s,(applySt s.2.st r).2)
 else if (writeE r s).2≠0 then (s,(writeE r s).2)
 else if (writeA r s).2≠0 then (((writeA r s).1.1,⟨(writeA r s).1.2,s.2.st,s.2.sure⟩),(writeA r s).2)
 else (((writeA r s).1.1,⟨(writeA r s).1.2,(applySt s.2.st (inRec r (writeA r s).1.2.m.ver)).1,s.2.sure⟩),(applySt s.2.st (inRec r (writeA r s).1.2.m.ver)).2)
def syncS (s:SD):SD×Int:=
 (((syncL (s.1,s.2.l)).1.1,⟨(syncL (s.1,s.2.l)).1.2,s.2.st,if (syncL (s.1,s.2.l)).2=0 then s.2.st else s.2.sure⟩),(syncL (s.1,s.2.l)).2)
def rowsS (ver:Int) (st:StD):List FrD:=(recsSt st).map (fun r=>(encRec r ver).1)
def swapA (ver:Int) (st:StD) (s:SD):DL×Int:=swapL ver.toNat ((rowsS ver st).map frBytes) (s.1,s.2.l)
def swapS (ver:Int) (st:StD) (s:SD):SD×Int:=
 if ver < s.2.l.m.ver∨3 < ver then (s,10)
 else (((swapA ver st s).1.1,⟨(swapA ver st s).1.2,if s.2.l.m.segs=(swapA ver st s).1.2.m.segs then s.2.st else inSt ver st,if (swapA ver st s).2=0 then inSt ver st else s.2.sure⟩),(swapA ver st s).2)
/-! ### Laws of the parts -/
theorem WfR.inRec {r:Rec} (h:WfR r) (v:Int):WfR (inRec r v):=by
 have hz:WfT zeroT:=by constructor <;> decide
 have ht:WfT (plainRec r).fl.t:=by
  unfold plainRec
  split
  ·exact h.t
  ·split
   ·exact h.t
   ·repeat' split
    all_goals exact hz
 have ha:∀ b∈(plainRec r).bks,0≤b.addr∧b.addr < 4294967296:=by
  unfold plainRec
  repeat' split
  all_goals first | exact h.addr | (intro b hb;simp at hb)
 unfold Go.Proofs.YtpmmiljakbojaaaGreat.inRec
 split
 ·exact⟨hz,by simp [zeroRec]⟩
 ·refine⟨?_,?_⟩
  ·simp only
   split
   ·exact ht
   ·exact ht
  ·intro b hb
   simp only [List.mem_map] at hb
   obtain⟨x,hx,rfl⟩:=hb
   rw [(inBk_id v x).2];exact ha x hx
theorem append_loose {d:DiskD} {l:LogD} {Fr Fr0:List FrD} {s s0:Nat} (h:LogInv d l Fr s Fr0 s0) (kind:Int) (body:List UInt8) (hl:(appendL kind body (d,l)).1.2.loose=true) (hn:l.loose=true→Fr≠[]):Fr≠[]:=by
 by_cases h0:l.loose=true
 ·exact hn h0
 have hl0:l.loose=false:=by cases e:l.loose <;> simp_all
 intro hFr
 subst hFr
 have hset:settleL (d,l)=((d,l),0):=by unfold settleL;simp [hl0]
 have hb:bytesD d (lastS l)=0:=by
  obtain⟨C,L,k,g1,g2,g3⟩:=h.now.2.2
  have hL:L=[]:=by
   have:=congrArg List.length g2
   simp at this
   exact List.eq_nil_of_length_eq_zero (by omega)
  have hr:=g1.last.read
  rw [← lastS_eq g1.len] at hr
  unfold bytesD
  rw [hr,hL];rfl
 unfold appendL at hl
 simp only at hl
 split at hl
 ·simp [hl0] at hl
 ·rw [hset,thenD_ok (r:=((d,l),(0:Int))) rfl] at hl
  simp only at hl
  rw [if_pos (by unfold fitsL;simp [hb])] at hl
  rw [thenD_ok (r:=((d,l),(0:Int))) rfl] at hl
  unfold onDisk at hl
  simp [hl0] at hl
/-! ### What holds of it -/
structure SoInv (s:SD) (Fr:List FrD) (k:Nat) (Fr0:List FrD) (k0:Nat):Prop where
 log:LogInv s.1 s.2.l Fr k Fr0 k0
 st:rdAll Fr zeroSt=(s.2.st,0)
 ok:OkSt s.2.st
 oks:OkSt s.2.sure
 ne:s.2.l.loose=true→Fr≠[]
theorem SoInv.ver {s:SD} {Fr:List FrD} {k:Nat} {Fr0:List FrD} {k0:Nat} (h:SoInv s Fr k Fr0 k0):verOk (s.2.l.m.ver:Int)=true:=by
 have:=h.log.now.1
 have:=(mayM_iff.1 this).1
 unfold verOk;simp;omega
theorem SoInv.write {s:SD} {Fr:List FrD} {k:Nat} {Fr0:List FrD} {k0:Nat} (h:SoInv s Fr k Fr0 k0) {r:Rec} (wr:WfR r) :
  (writeS r s).1.2.l.size=s.2.l.size∧(writeS r s).1.2.l.m.ver=s.2.l.m.ver∧(writeS r s).1.2.sure=s.2.sure ∧
  (((writeS r s).2=0∧∃ f,SoInv (writeS r s).1 (Fr++[f]) k (Fr++[f]) k∧(writeS r s).1.2.l.loose=false) ∨
    ((writeS r s).2≠0∧(writeS r s).1.2.st=s.2.st∧(SoInv (writeS r s).1 Fr k Fr0 k0∨SoInv (writeS r s).1 Fr k Fr k))):=by
 have hv:=h.ver
 unfold writeS
 by_cases c1:mayRec r=false∨r.kind=6
 ·rw [if_pos c1];exact⟨rfl,rfl,rfl,Or.inr ⟨by simp,rfl,Or.inl h⟩⟩
 rw [if_neg c1]
 have hm:mayRec r=true:=by cases e:mayRec r <;> simp_all
 have h6:r.kind≠6:=fun e=>c1 (Or.inr e)
 by_cases c2:(applySt s.2.st r).2=0
 case neg=>rw [if_pos c2];exact⟨rfl,rfl,rfl,Or.inr ⟨c2,rfl,Or.inl h⟩⟩
 rw [if_neg (by simp [c2])]
 have he:=dec_enc wr hv hm
 have c3:(writeE r s).2=0:=he.1
 rw [if_neg (by simp [c3])]
 have hfr:=rdFr_enc (s:=s.2.st) wr hv hm h6
 have hai:=apply_in (s:=s.2.st) hv c2
 have hok:=enc_ok (r:=r) (v:=s.2.l.m.ver) he.1
 have ha:=append_inv h.log ((writeE r s).1.kind:Int) (writeE r s).1.body
 rw [show appendL ((writeE r s).1.kind:Int) (writeE r s).1.body (s.1,s.2.l)=writeA r s from rfl] at ha
 obtain⟨a1,a2,a3⟩:=ha
 have hft:(⟨((writeE r s).1.kind:Int).toNat,s.2.l.m.ver,(writeE r s).1.body⟩:FrD)=(encRec r s.2.l.m.ver).1:=by
  have h2:=hok.2.1
  show (⟨((encRec r s.2.l.m.ver).1.kind:Int).toNat,s.2.l.m.ver,(encRec r s.2.l.m.ver).1.body⟩:FrD)=(encRec r s.2.l.m.ver).1
  generalize encRec r s.2.l.m.ver=y at h2 ⊢
  rcases y with ⟨⟨a,b,c⟩,e⟩
  simp only [Int.toNat_natCast] at h2 ⊢
  subst h2;rfl
 rw [hft] at a3
 by_cases c4:(writeA r s).2=0
 case neg=>
  rw [if_pos c4]
  refine⟨a1,a2,rfl,Or.inr ⟨c4,rfl,?_⟩⟩
  rcases a3 with ⟨e,_⟩|⟨_,g | g⟩
  ·exact absurd e c4
  ·exact Or.inl ⟨g,h.st,h.ok,h.oks,fun e=>append_loose h.log _ _ e h.ne⟩
  ·exact Or.inr ⟨g,h.st,h.ok,h.oks,fun e=>append_loose h.log _ _ e h.ne⟩
 rw [if_neg (by simp [c4]),a2]
 refine⟨a1,rfl,rfl,Or.inl ⟨hai,(encRec r s.2.l.m.ver).1,?_⟩⟩
 rcases a3 with ⟨_,g1,g2⟩|⟨e,_⟩
 ·refine⟨⟨Or.inl ⟨g1,g2⟩,?_,?_,h.oks,fun _=>by simp⟩,g1⟩
  ·rw [rdAll_app,h.st,if_neg (by simp)]
   show (if (rdFr s.2.st _).2≠0 then rdFr s.2.st _ else rdAll [] (rdFr s.2.st _).1)=_
   rw [hfr,if_neg (by simp [hai])]
   show ((applySt s.2.st (inRec r s.2.l.m.ver)).1,(0:Int))=_
   rfl
  ·exact h.ok.apply (WfR.inRec wr _)
 ·exact absurd c4 e
theorem peek_on {d:DiskD} {m:ManD} {Fr:List FrD} (h:OnDisk d m Fr):peekS d=((m.ver:Int),0):=by
 unfold peekS
 rw [h.head.read]
 simp only [man_dec h.may]
/-! ### Where nothing fails -/
structure SoRm (s:SD) (Fr:List FrD) (k n:Nat):Prop where
 inv:SoInv s Fr k Fr k
 loose:s.2.l.loose=false
 rm:Rm s.1 (600 * n) (2 * n)
 segs:s.2.l.m.segs.length+n≤64
 next:s.2.l.m.next+n≤1000000
theorem SoInv.firm {s:SD} {Fr:List FrD} {k:Nat} {Fr0:List FrD} {k0:Nat} (h:SoInv s Fr k Fr0 k0) (hl:s.2.l.loose=false):Firm s.1 s.2.l.m Fr k:=by
 rcases h.log with ⟨_,g⟩|⟨e,_⟩
 ·exact g
 ·rw [hl] at e;cases e
theorem writeS_ok {r:Rec} {s:SD} (h:(writeS r s).2=0):mayRec r=true∧(writeS r s).1.1=(writeA r s).1.1∧(writeS r s).1.2.l=(writeA r s).1.2:=by
 unfold writeS at h ⊢
 by_cases c1:mayRec r=false∨r.kind=6
 ·rw [if_pos c1] at h;simp at h
 rw [if_neg c1] at h ⊢
 have hm:mayRec r=true:=by cases e:mayRec r <;> simp_all
 by_cases c2:(applySt s.2.st r).2=0
 case neg=>rw [if_pos c2] at h;exact absurd h c2
 rw [if_neg (by simp [c2])] at h ⊢
 by_cases c3:(writeE r s).2=0
 case neg=>rw [if_pos c3] at h;exact absurd h c3
 rw [if_neg (by simp [c3])] at h ⊢
 by_cases c4:(writeA r s).2=0
 case neg=>rw [if_pos c4] at h;exact absurd h c4
 rw [if_neg (by simp [c4])]
 exact⟨hm,rfl,rfl⟩
theorem SoRm.app {s:SD} {Fr:List FrD} {k n:Nat} (h:SoRm s Fr k (n+1)) {r:Rec} (wr:WfR r) (hm:mayRec r=true) :
  (writeA r s).2=0∧Rm (writeA r s).1.1 (600 * n) (2 * n)∧(writeA r s).1.2.m.segs.length≤s.2.l.m.segs.length+1∧(writeA r s).1.2.m.next≤s.2.l.m.next+1:=by
 have hv:=h.inv.ver
 have hb:(writeE r s).1.body.length≤200:=by
  show (encRec r s.2.l.m.ver).1.body.length≤200
  unfold encRec
  rw [if_neg (by simp [hv]),if_neg (by simp [hm])]
  exact recBody_length _ hm
 have hok:=(enc_ok (r:=r) (v:=s.2.l.m.ver) (dec_enc wr hv hm).1).1
 have hk:(writeE r s).1.kind < 256:=hok.kind
 have hver:s.2.l.m.ver≤255:=by have:=h.inv.ver;unfold verOk at this;simp at this;omega
 have hp:putErr (writeE r s).1.kind s.2.l.m.ver (writeE r s).1.body.length=0:=by
  unfold putErr
  rw [if_neg (by omega),if_neg (by omega)]
 exact append_rm (h.inv.firm h.loose) h.loose _ _ (B:=600 * n) (n:=2 * n) (h.rm.le (by omega) (by omega)) (by have:=h.segs;omega) (by have:=h.next;omega) hp
theorem writeS_err {r:Rec} {s:SD} (hv:verOk (s.2.l.m.ver:Int)=true) (ha:mayRec r=true→(writeA r s).2=0∧(writeA r s).1.2.m.ver=s.2.l.m.ver) (h:(writeS r s).2≠0):(writeS r s).1=s:=by
 unfold writeS at h ⊢
 by_cases c1:mayRec r=false∨r.kind=6
 ·rw [if_pos c1]
 rw [if_neg c1] at h ⊢
 have hm:mayRec r=true:=by cases e:mayRec r <;> simp_all
 by_cases c2:(applySt s.2.st r).2=0
 case neg=>rw [if_pos c2]
 rw [if_neg (by simp [c2])] at h ⊢
 by_cases c3:(writeE r s).2=0
 case neg=>rw [if_pos c3]
 rw [if_neg (by simp [c3])] at h ⊢
 rw [if_neg (by simp [(ha hm).1])] at h ⊢
 rw [(ha hm).2] at h
 exact absurd (apply_in hv c2) h
theorem SoRm.write {s:SD} {Fr:List FrD} {k n:Nat} (h:SoRm s Fr k (n+1)) {r:Rec} (wr:WfR r) :
  (writeS r s).1.2.l.size=s.2.l.size∧(writeS r s).1.2.l.m.ver=s.2.l.m.ver∧(writeS r s).1.2.sure=s.2.sure ∧
  (((writeS r s).2=0∧∃ f,SoRm (writeS r s).1 (Fr++[f]) k n)∨((writeS r s).2≠0∧(writeS r s).1=s)):=by
 obtain⟨a1,a2,a3,a4⟩:=h.inv.write wr
 refine⟨a1,a2,a3,?_⟩
 rcases a4 with ⟨e,f,g1,g2⟩|⟨e,_,_⟩
 ·obtain⟨e1,e2,e3⟩:=writeS_ok e
  obtain⟨b1,b2,b3,b4⟩:=h.app wr e1
  refine Or.inl ⟨e,f,g1,g2,by rw [e2];exact b2,?_,?_⟩
  ·rw [e3];have:=h.segs;omega
  ·rw [e3];have:=h.next;omega
 ·refine Or.inr ⟨e,writeS_err h.inv.ver (fun hm=>⟨(h.app wr hm).1,?_⟩) e⟩
  exact (append_inv h.inv.log ((writeE r s).1.kind:Int) (writeE r s).1.body).2.1
theorem SoRm.less {s:SD} {Fr:List FrD} {k n n':Nat} (h:SoRm s Fr k n) (hn:n'≤n):SoRm s Fr k n':=
 ⟨h.inv,h.loose,h.rm.le (by omega) (by omega),by have:=h.segs;omega,by have:=h.next;omega⟩
theorem nil_inv {l:LogD} {d:DiskD} (hl:l.loose=false) (h:Firm d l.m [] 0):SoInv (d,⟨l,zeroSt,zeroSt⟩) [] 0 [] 0:=⟨Or.inl ⟨hl,h⟩,rfl,OkSt.zero,OkSt.zero,fun e=>by rw [show _=l.loose from rfl,hl] at e;cases e⟩
theorem SoRm.start {v:Int} (hv:1≤v∧v≤3) (size:Int) (q:Int) (n:Nat) (hq:600 * (n:Int)+278≤q∧q≤1048576) (hn:n≤62) :
  ∃ s:SD,createS v size (dNew q)=(s.1,some s.2,0)∧SoRm s [] 0 n∧s.2.st=zeroSt∧s.2.sure=zeroSt∧(s.2.l.m.ver:Int)=v∧s.2.l.size=sized size:=by
 have hq':(dNew q).quota=q.toNat:=by
  show (max 0 (min q 67108864)).toNat=q.toNat
  omega
 obtain⟨d',h1,h2,h3⟩:=create_rm (d:=dNew q) (B:=600 * n) (n:=2 * n) (dNew_ok q) ⟨rfl,by rw [hq'];show 0+_≤_;omega,by show 0+_≤200;omega,by rw [hq'];omega⟩ rfl (v:=v.toNat) (by omega) size
 have hvt:(v.toNat:Int)=v:=by omega
 rw [hvt] at h1
 refine⟨(d',⟨⟨sized size,firstM v.toNat,false⟩,zeroSt,zeroSt⟩),?_,⟨nil_inv rfl h2,rfl,h3,?_,?_⟩,rfl,rfl,hvt,rfl⟩
 ·unfold createS;rw [h1]
 ·show 1+n≤64;omega
 ·show 2+n≤1000000;omega
def inB (x m:Int):Bool:=decide (0≤x∧x≤m)
theorem rc_in (x m:Int) (w:World):Calls Tryz.prog 60 #[.int .i64 x,.int .i64 m] w fun e w'=>e=.returned (.bool (inB x m))∧w'=w:=by
 by_cases h0:0≤x
 ·by_cases h1:x≤m
  ·have e:inB x m=true:=decide_eq_true ⟨h0,h1⟩
   rw [e];clear e
   go_enter Tryz.func60,Tryz.ntmps60
   go_wp2_with fail
   go_ret
   exact⟨rfl,rfl⟩
  ·have e:inB x m=false:=decide_eq_false (fun h=>h1 h.2)
   have q:decide (x≤m)=false:=decide_eq_false h1
   rw [e];clear e h1
   go_enter Tryz.func60,Tryz.ntmps60
   go_wp2_with fail
   go_ret
   exact⟨rfl,rfl⟩
 ·have e:inB x m=false:=decide_eq_false (fun h=>h0 h.1)
  have q:decide (0≤x)=false:=decide_eq_false h0
  rw [e];clear e h0
  go_enter Tryz.func60,Tryz.ntmps60
  go_wp2_with fail
  go_ret
  exact⟨rfl,rfl⟩
theorem rc_time (x:Int) (w:World):Calls Tryz.prog 61 #[.int .i64 x] w fun e w'=>e=.returned (.bool (inB x 1099511627776))∧w'=w:=by
 by_cases h0:0≤x
 ·by_cases h1:x≤1099511627776
  ·have e:inB x 1099511627776=true:=decide_eq_true ⟨h0,h1⟩
   rw [e];clear e
   go_enter Tryz.func61,Tryz.ntmps61
   go_wp2_with fail
   go_ret
   exact⟨rfl,rfl⟩
  ·have e:inB x 1099511627776=false:=decide_eq_false (fun h=>h1 h.2)
   have q:decide (x≤1099511627776)=false:=decide_eq_false h1
   rw [e];clear e h1
   go_enter Tryz.func61,Tryz.ntmps61
   go_wp2_with fail
   go_ret
   exact⟨rfl,rfl⟩
 ·have e:inB x 1099511627776=false:=decide_eq_false (fun h=>h0 h.1)
  have q:decide (0≤x)=false:=decide_eq_false h0
  rw [e];clear e h0
  go_enter Tryz.func61,Tryz.ntmps61
  go_wp2_with fail
  go_ret
  exact⟨rfl,rfl⟩
theorem rc_version (x:Int) (w:World):Calls Tryz.prog 69 #[.int .i64 x] w fun e w'=>e=.returned (.bool (verOk x))∧w'=w:=by
 by_cases h0:1≤x
 ·by_cases h1:x≤3
  ·have e:verOk x=true:=decide_eq_true ⟨h0,h1⟩
   rw [e];clear e
   go_enter Tryz.func69,Tryz.ntmps69
   go_wp2_with fail
   go_ret
   exact⟨rfl,rfl⟩
  ·have e:verOk x=false:=decide_eq_false (fun h=>h1 h.2)
   have q:decide (x≤3)=false:=decide_eq_false h1
   rw [e];clear e h1
   go_enter Tryz.func69,Tryz.ntmps69
   go_wp2_with fail
   go_ret
   exact⟨rfl,rfl⟩
 ·have e:verOk x=false:=decide_eq_false (fun h=>h0 h.1)
  have q:decide (1≤x)=false:=decide_eq_false h0
  rw [e];clear e h0
  go_enter Tryz.func69,Tryz.ntmps69
  go_wp2_with fail
  go_ret
  exact⟨rfl,rfl⟩
theorem mayBk_eq (b:Bk):mayBk b=(inB b.id 65535 && decide (1≤b.weight∧b.weight≤10)):=rfl
section
variable {F0:List Nat} {w0 w:World} {R:List Asrt}
theorem o_rcbk (b:Bk) (h:In F0 w0 w R):Calls Tryz.prog 64 #[.agg (encB b).toArray] w fun e w'=>e=.returned (.bool (mayBk b))∧In F0 w0 w' R:=by
 have G:=Lib.hid ((h.cells (encB b).toArray 119).drop)
 have K:=Lib.hid (rc_in b.id 65535)
 rw [mayBk_eq]
 obtain⟨id,addr,wt⟩:=b
 simp only at K ⊢
 clear h
 cases hi:inB id 65535 with
 | false=>
  rw [hi] at K;clear hi
  go_enter Tryz.func64,Tryz.ntmps64
  go_wp2_with fail
  refine (K.out _).mono ?_
  rintro e w1 ⟨rfl,rfl⟩
  clear K
  go_wp2_with fail
  go_ret
  exact⟨rfl,G.out⟩
 | true=>
  rw [hi] at K;clear hi
  by_cases h1:1≤wt
  ·by_cases h2:wt≤10
   ·have e:(true && decide (1≤wt∧wt≤10))=true:=by simp [h1,h2]
    rw [e];clear e
    go_enter Tryz.func64,Tryz.ntmps64
    go_wp2_with fail
    refine (K.out _).mono ?_
    rintro e w1 ⟨rfl,rfl⟩
    clear K
    go_wp2_with fail
    go_ret
    exact⟨rfl,G.out⟩
   ·have e:(true && decide (1≤wt∧wt≤10))=false:=by simp [h1,h2]
    have q:decide (wt≤10)=false:=decide_eq_false h2
    rw [e];clear e h2
    go_enter Tryz.func64,Tryz.ntmps64
    go_wp2_with fail
    refine (K.out _).mono ?_
    rintro e w1 ⟨rfl,rfl⟩
    clear K
    go_wp2_with fail
    go_ret
    exact⟨rfl,G.out⟩
  ·have e:(true && decide (1≤wt∧wt≤10))=false:=by simp [h1]
   have q:decide (1≤wt)=false:=decide_eq_false h1
   rw [e];clear e h1
   go_enter Tryz.func64,Tryz.ntmps64
   go_wp2_with fail
   refine (K.out _).mono ?_
   rintro e w1 ⟨rfl,rfl⟩
   clear K
   go_wp2_with fail
   go_ret
   exact⟨rfl,G.out⟩
theorem o_rcmay1 (b:Bk) (h:In F0 w0 w R):Calls Tryz.prog 63 #[.agg (encB b).toArray] w fun e w'=>e=.returned (.bool (!mayBk b))∧In F0 w0 w' R:=by
 have K:=Lib.hid (o_rcbk b ((h.cells (encB b).toArray 119).drop))
 obtain⟨id,addr,wt⟩:=b
 clear h
 go_enter Tryz.func63,Tryz.ntmps63
 go_wp2_with fail
 refine K.out.mono ?_
 rintro e w1 ⟨rfl,g⟩
 have G:=Lib.hid g
 clear g K
 go_wp2_with fail
 go_ret
 exact⟨rfl,G.out⟩
theorem Src.plain {w:World} {A:Option Addr} {m k:Nat} {news:List Value} (h:Src w A m k news) (h0:0 < m) (hk:0 < k):∃ g o,A=some ⟨g,o,none⟩∧∀ j u,news[j]?=some u→w.cell? ⟨g,o+j,none⟩=some u:=by
 obtain⟨ad,e,hc⟩:=h.at' h0
 have hl:0 < news.length:=by rw [h.len];exact Nat.mul_pos h0 hk
 have c0:=hc 0 _ (List.getElem?_eq_getElem hl)
 have e2:=addr_none c0
 refine⟨ad.block,ad.off,by rw [e];exact congrArg some e2,fun j u hu=>?_⟩
 have:=hc j u hu
 rw [e2,add_plain] at this
 exact this
def BksAt (F0:List Nat) (w0:World) (R:List Asrt) (A:Option Addr) (l:List Bk):Prop:=∀ w',In F0 w0 w' R→Src w' A l.length 3 (bkV l)
theorem BksAt.cell {A:Option Addr} {l:List Bk} (hs:BksAt F0 w0 R A l) (h:In F0 w0 w R) {k:Nat} {b:Bk} (hb:l[k]?=some b):∃ g o,A=some ⟨g,o,none⟩∧w.cell? ⟨g,o+k * 3,none⟩=some (.int .i64 b.id)∧w.cell? ⟨g,o+k * 3+1,none⟩=some (.int .u32 b.addr)∧w.cell? ⟨g,o+k * 3+2,none⟩=some (.int .i64 b.weight):=by
 have hk:=(List.getElem?_eq_some_iff.1 hb).1
 obtain⟨g,o,e,hc⟩:=(hs w h).plain (by omega) (by decide)
 obtain⟨b0,b1,b2⟩:=bkV_at hb
 exact⟨g,o,e,hc _ _ b0,hc _ _ b1,hc _ _ b2⟩
def IdxRel (l:List Bk) (F0:List Nat) (w0:World) (R:List Asrt) (i:Value) (wr:World):Prop:=∃ k:Nat,k≤l.length∧i=.int .i64 k∧(∀ b∈l.take k,mayBk b=true)∧In F0 w0 wr R
def IdxPost (l:List Bk) (F0:List Nat) (w0:World) (R:List Asrt) (e:Ending) (w':World):Prop:=∃ z:Int,e=.returned (.int .i64 z)∧decide (0≤z)=l.any (fun b=>!mayBk b)∧In F0 w0 w' R
theorem idx_step {l:List Bk} {k:Nat} {b:Bk} (hb:l[k]?=some b) (ha:∀ b∈l.take k,mayBk b=true) (h:mayBk b=true) (hi:In F0 w0 w R):IdxRel l F0 w0 R (.int .i64 ((k:Int)+1)) w:=by
 refine⟨k+1,(List.getElem?_eq_some_iff.1 hb).1,by rw [Int.natCast_add];rfl,fun x hx=>?_,hi⟩
 rw [List.take_add_one,hb] at hx
 rcases List.mem_append.1 hx with hx | hx
 ·exact ha x hx
 ·simp at hx;subst hx;exact h
theorem o_idxbk {l:List Bk} {A:Option Addr} {c:Nat} (hs:BksAt F0 w0 R A l) (hl:l.length≤1000000000) (h:In F0 w0 w R):Calls Tryz.prog 117 #[.slice A l.length c,.func (.func 63) #[] #[]] w (IdxPost l F0 w0 R):=by
 have HR:Hid (IdxRel l F0 w0 R (.int .i64 0) w):=Lib.hid ⟨0,Nat.zero_le _,rfl,by simp,h⟩
 have HS:=Lib.hid hs
 have hln:l.length≤1000000000:=hl
 clear h hs hl
 go_enter Tryz.func117,Tryz.ntmps117
 go_wp2_with fail
 go_loopw [8] (IdxRel l F0 w0 R) (fun k _=>l.length - (intOf k).toNat)
 case atStart=>exact HR.out
 case round=>
  obtain⟨k,hk,rfl,hall,hio⟩:=hrel
  clear HR
  by_cases hlt:k < l.length
  ·obtain⟨b,hb⟩:∃ b,l[k]?=some b:=⟨l[k],List.getElem?_eq_getElem hlt⟩
   obtain⟨g,o,rfl,c0,c1,c2⟩:=HS.out.cell hio hb
   have hlt':(k:Int) < (l.length:Int):=Int.ofNat_lt.2 hlt
   have hw2:wrap64 ((k:Int)+1)=(k:Int)+1:=by unfold wrap64;omega
   have K:=Lib.hid (o_rcmay1 b hio)
   have HN:=Lib.hid (fun (h1:mayBk b=true) w' (h':In F0 w0 w' R)=>idx_step (w:=w') hb hall h1 h')
   have HX:=Lib.hid (fun (h1:mayBk b=false) w' (h':In F0 w0 w' R)=>(show IdxPost l F0 w0 R (.returned (.int .i64 k)) w' from ⟨k,rfl,by
    have:l.any (fun b=>!mayBk b)=true:=List.any_eq_true.2 ⟨b,List.mem_of_getElem? hb,by simp [h1]⟩
    rw [this];simp,h'⟩))
   clear hio hall hb hlt hk
   cases hm:mayBk b with
   | true=>
    rw [hm] at K
    have HN1:=Lib.hid (HN.out hm)
    clear HN HX hm
    go_wp2_with fail
    refine K.out.mono ?_
    rintro e w1 ⟨rfl,g1⟩
    have HN2:=Lib.hid (HN1.out w1 g1)
    clear g1 K HN1
    go_wp2_with fail
    go_roundw
    case rel=>(try rw [hw2]);exact HN2.out
    case measure=>(try rw [hw2]);exact meas_lt hlt'
   | false=>
    rw [hm] at K
    have HX1:=Lib.hid (HX.out hm)
    clear HN HX hm
    go_wp2_with fail
    refine K.out.mono ?_
    rintro e w1 ⟨rfl,g1⟩
    have HN2:=Lib.hid (HX1.out w1 g1)
    clear g1 K HX1
    go_wp2_with fail
    go_ret
    exact HN2.out
  ·have hge:(l.length:Int)≤(k:Int):=Int.ofNat_le.2 (Nat.le_of_not_lt hlt)
   have hkl:l.take k=l:=List.take_of_length_le (Nat.le_of_not_lt hlt)
   rw [hkl] at hall
   have G:Hid (IdxPost l F0 w0 R (.returned (.int .i64 (-1))) wr):=Lib.hid ⟨-1,rfl,by
    have:l.any (fun b=>!mayBk b)=false:=List.any_eq_false.2 (fun b hb=>by simp [hall b hb])
    rw [this];rfl,hio⟩
   clear hio hkl hlt hk hall
   go_wp2_with fail
   go_ret
   exact G.out
theorem o_contbk {l:List Bk} {A:Option Addr} {c:Nat} (hs:BksAt F0 w0 R A l) (hl:l.length≤1000000000) (h:In F0 w0 w R):Calls Tryz.prog 62 #[.slice A l.length c,.func (.func 63) #[] #[]] w fun e w'=>e=.returned (.bool (l.any (fun b=>!mayBk b)))∧In F0 w0 w' R:=by
 have K:=Lib.hid (o_idxbk (c:=c) hs hl h)
 clear h hs hl
 go_enter Tryz.func62,Tryz.ntmps62
 go_wp2_with fail
 refine K.out.mono ?_
 rintro e w1 ⟨z,rfl,hz,g⟩
 have HZ:=Lib.hid hz
 have G:=Lib.hid g
 clear g K hz
 go_wp2_with fail
 go_ret
 exact⟨by rw [← HZ.out];rfl,G.out⟩
end
theorem tmay_b (t:Tup) (w:World):Calls Tryz.prog 59 #[.agg (encT t)] w fun e w'=>e=.returned (.bool (decide (MayT t)))∧w'=w.alloc (.cells (encT t) 34):=by
 by_cases h:MayT t
 ·rw [decide_eq_true h];exact tmay_true h w
 ·rw [decide_eq_false h];exact tmay_false h w
theorem mayF_b (f:Fl):decide (MayF f)=(decide (MayT f.t) && (inB f.bk 65535 && (inB f.gen 1000000 && inB f.seen 1099511627776))):=by
 unfold inB
 rw [Bool.eq_iff_iff]
 simp only [decide_eq_true_eq,Bool.and_eq_true,mayF_iff]
 constructor
 ·rintro ⟨a,b,c,d,e,f,g⟩;exact⟨a,⟨b,c⟩,⟨d,e⟩,f,g⟩
 ·rintro ⟨a,⟨b,c⟩,⟨d,e⟩,f,g⟩;exact⟨a,b,c,d,e,f,g⟩
theorem not_any (l:List Bk):(!l.any (fun b=>!mayBk b))=l.all mayBk:=by
 induction l with
 | nil=>rfl
 | cons b l ih=>simp only [List.any_cons,List.all_cons,Bool.not_or,Bool.not_not,ih]
section
variable {F0:List Nat} {w0 w:World} {R:List Asrt}
abbrev agR (r:Rec) (A:Option Addr) (c:Nat):Value:=.agg (encRL r (.slice A r.bks.length c)).toArray
theorem o_rcmay {r:Rec} {A:Option Addr} {c:Nat} (hs:BksAt F0 w0 R A r.bks) (hl:r.bks.length≤1000000000) (h:In F0 w0 w R):Calls Tryz.prog 22 #[agR r A c] w fun e w'=>e=.returned (.bool (mayRec r))∧In F0 w0 w' R:=by
 have H:=Lib.hid h
 have HS:=Lib.hid hs
 have HL:=Lib.hid hl
 clear h hs hl
 obtain⟨kind,fl,gen,bks,bk,till,count⟩:=r
 by_cases k1:kind=1
 ·subst k1
  have e:mayRec ⟨1,fl,gen,bks,bk,till,count⟩=decide (MayF fl):=rfl
  rw [e,mayF_b];clear e
  have KT:=Lib.hid (tmay_b fl.t)
  obtain⟨⟨src,dst,proto,sport,dport⟩,fbk,fgen,fseen⟩:=fl
  simp only at KT ⊢
  have K1:=Lib.hid (rc_in fbk 65535)
  have K2:=Lib.hid (rc_in fgen 1000000)
  have K3:=Lib.hid (rc_time fseen)
  generalize decide (MayT ⟨src,dst,proto,sport,dport⟩)=mt at *
  generalize inB fbk 65535=b1 at *
  generalize inB fgen 1000000=b2 at *
  generalize inB fseen 1099511627776=b3 at *
  cases mt with
  | false=>
   go_enter Tryz.func22,Tryz.ntmps22
   go_wp2_with fail
   refine (KT.out _).mono ?_
   rintro e w1 ⟨rfl,rfl⟩
   clear KT
   go_wp2_with fail
   go_ret
   exact⟨rfl,((H.out.alloc _).alloc _).alloc _⟩
  | true=>
   cases b1 with
   | false=>
    go_enter Tryz.func22,Tryz.ntmps22
    go_wp2_with fail
    refine (KT.out _).mono ?_
    rintro e w1 ⟨rfl,rfl⟩
    clear KT
    go_wp2_with fail
    refine (K1.out _).mono ?_
    rintro e w1 ⟨rfl,rfl⟩
    clear K1
    go_wp2_with fail
    go_ret
    exact⟨rfl,((H.out.alloc _).alloc _).alloc _⟩
   | true=>
    cases b2 with
    | false=>
     go_enter Tryz.func22,Tryz.ntmps22
     go_wp2_with fail
     refine (KT.out _).mono ?_
     rintro e w1 ⟨rfl,rfl⟩
     clear KT
     go_wp2_with fail
     refine (K1.out _).mono ?_
     rintro e w1 ⟨rfl,rfl⟩
     clear K1
     go_wp2_with fail
     refine (K2.out _).mono ?_
     rintro e w1 ⟨rfl,rfl⟩
     clear K2
     go_wp2_with fail
     go_ret
     exact⟨rfl,((H.out.alloc _).alloc _).alloc _⟩
    | true=>
     go_enter Tryz.func22,Tryz.ntmps22
     go_wp2_with fail
     refine (KT.out _).mono ?_
     rintro e w1 ⟨rfl,rfl⟩
     clear KT
     go_wp2_with fail
     refine (K1.out _).mono ?_
     rintro e w1 ⟨rfl,rfl⟩
     clear K1
     go_wp2_with fail
     refine (K2.out _).mono ?_
     rintro e w1 ⟨rfl,rfl⟩
     clear K2
     go_wp2_with fail
     refine (K3.out _).mono ?_
     rintro e w1 ⟨rfl,rfl⟩
     clear K3
     go_wp2_with fail
     go_ret
     exact⟨by simp,((H.out.alloc _).alloc _).alloc _⟩
 by_cases k2:kind=2
 ·subst k2
  have e:mayRec ⟨2,fl,gen,bks,bk,till,count⟩=decide (MayT fl.t):=rfl
  rw [e];clear e k1
  have KT:=Lib.hid (tmay_b fl.t)
  obtain⟨⟨src,dst,proto,sport,dport⟩,fbk,fgen,fseen⟩:=fl
  simp only at KT ⊢
  go_enter Tryz.func22,Tryz.ntmps22
  go_wp2_with fail
  refine (KT.out _).mono ?_
  rintro e w1 ⟨rfl,rfl⟩
  clear KT
  go_wp2_with fail
  go_ret
  exact⟨rfl,(H.out.alloc _).alloc _⟩
 by_cases k3:kind=3
 ·subst k3
  have e:mayRec ⟨3,fl,gen,bks,bk,till,count⟩=(inB gen 1000000 && (decide (bks.length≤16) && bks.all mayBk)):=rfl
  rw [e,← not_any];clear e k1 k2
  have K1:=Lib.hid (rc_in gen 1000000)
  have HG:Hid (∀ o,In F0 w0 (w.alloc o) R):=Lib.hid fun o=>H.out.alloc o
  have K2:Hid (∀ o,Calls Tryz.prog 62 #[.slice A bks.length c,.func (.func 63) #[] #[]] (w.alloc o) fun e w'=>e=.returned (.bool (bks.any (fun b=>!mayBk b)))∧In F0 w0 w' R):=Lib.hid fun o=>o_contbk HS.out HL.out (HG.out o)
  generalize inB gen 1000000=b1 at *
  generalize bks.any (fun b=>!mayBk b)=b2 at *
  cases b1 with
  | false=>
   go_enter Tryz.func22,Tryz.ntmps22
   go_wp2_with fail
   refine (K1.out _).mono ?_
   rintro e w1 ⟨rfl,rfl⟩
   clear K1
   go_wp2_with fail
   go_ret
   exact⟨rfl,H.out.alloc _⟩
  | true=>
   by_cases h16:bks.length≤16
   ·have q:((bks.length:Nat):Int)≤16:=by omega
    have e:(true && (decide (bks.length≤16) && !b2))=!b2:=by simp [h16]
    rw [e];clear e h16
    go_enter Tryz.func22,Tryz.ntmps22
    go_wp2_with fail
    refine (K1.out _).mono ?_
    rintro e w1 ⟨rfl,rfl⟩
    clear K1
    go_wp2_with fail
    refine (K2.out _).mono ?_
    rintro e w1 ⟨rfl,g⟩
    have G:=Lib.hid g
    clear g K2
    go_wp2_with fail
    go_ret
    exact⟨by simp,G.out⟩
   ·have q:decide (((bks.length:Nat):Int)≤16)=false:=decide_eq_false (by omega)
    have q2:decide (bks.length≤16)=false:=decide_eq_false h16
    have e:(true && (decide (bks.length≤16) && !b2))=false:=by simp [h16]
    rw [e];clear e h16
    go_enter Tryz.func22,Tryz.ntmps22
    go_wp2_with fail
    refine (K1.out _).mono ?_
    rintro e w1 ⟨rfl,rfl⟩
    clear K1
    go_wp2_with fail
    go_ret
    exact⟨rfl,H.out.alloc _⟩
 by_cases k4:kind=4
 ·subst k4
  have e:mayRec ⟨4,fl,gen,bks,bk,till,count⟩=(inB bk 65535 && inB till 1099511627776):=rfl
  rw [e];clear e k1 k2 k3
  have K1:=Lib.hid (rc_in bk 65535)
  have K2:=Lib.hid (rc_time till)
  generalize inB bk 65535=b1 at *
  generalize inB till 1099511627776=b2 at *
  cases b1 with
  | false=>
   go_enter Tryz.func22,Tryz.ntmps22
   go_wp2_with fail
   refine (K1.out _).mono ?_
   rintro e w1 ⟨rfl,rfl⟩
   clear K1
   go_wp2_with fail
   go_ret
   exact⟨rfl,H.out.alloc _⟩
  | true=>
   go_enter Tryz.func22,Tryz.ntmps22
   go_wp2_with fail
   refine (K1.out _).mono ?_
   rintro e w1 ⟨rfl,rfl⟩
   clear K1
   go_wp2_with fail
   refine (K2.out _).mono ?_
   rintro e w1 ⟨rfl,rfl⟩
   clear K2
   go_wp2_with fail
   go_ret
   exact⟨by simp,H.out.alloc _⟩
 by_cases k5:kind=5
 ·subst k5
  have e:mayRec ⟨5,fl,gen,bks,bk,till,count⟩=inB bk 65535:=rfl
  rw [e];clear e k1 k2 k3 k4
  have K1:=Lib.hid (rc_in bk 65535)
  go_enter Tryz.func22,Tryz.ntmps22
  go_wp2_with fail
  refine (K1.out _).mono ?_
  rintro e w1 ⟨rfl,rfl⟩
  clear K1
  go_wp2_with fail
  go_ret
  exact⟨rfl,H.out.alloc _⟩
 by_cases k6:kind=6
 ·subst k6
  have e:mayRec ⟨6,fl,gen,bks,bk,till,count⟩=inB count 1000000:=rfl
  rw [e];clear e k1 k2 k3 k4 k5
  have K1:=Lib.hid (rc_in count 1000000)
  go_enter Tryz.func22,Tryz.ntmps22
  go_wp2_with fail
  refine (K1.out _).mono ?_
  rintro e w1 ⟨rfl,rfl⟩
  clear K1
  go_wp2_with fail
  go_ret
  exact⟨rfl,H.out.alloc _⟩
 ·have e:mayRec ⟨kind,fl,gen,bks,bk,till,count⟩=false:=by unfold mayRec;simp only;rw [if_neg k1,if_neg k2,if_neg k3,if_neg k4,if_neg k5,if_neg k6]
  rw [e];clear e
  have q1:(kind == 1)=false:=beq_eq_false_iff_ne.2 k1
  have q2:(kind == 2)=false:=beq_eq_false_iff_ne.2 k2
  have q3:(kind == 3)=false:=beq_eq_false_iff_ne.2 k3
  have q4:(kind == 4)=false:=beq_eq_false_iff_ne.2 k4
  have q5:(kind == 5)=false:=beq_eq_false_iff_ne.2 k5
  have q6:(kind == 6)=false:=beq_eq_false_iff_ne.2 k6
  clear k1 k2 k3 k4 k5 k6
  go_enter Tryz.func22,Tryz.ntmps22
  go_wp2_with fail
  go_ret
  exact⟨rfl,H.out.alloc _⟩
end
theorem infoBk:(Tryz.prog.info? 119).map (fun i=>(i.zero.map (fun z=>z.cells.size),i.size,i.bytes))=some (some 3,3,24):=by kernel_rfl
theorem RowA.noc {T:TypeId} {k n n' c:Nat} {a:Option Addr} {xs:List Value} {w:World} {F:List Nat} (h:RowA T k (.slice a n c) n' xs w F) (ha:a=none):c=0:=by
 obtain⟨h0,h1,h2⟩:=h
 rcases h2 with ⟨e,_⟩|⟨g,cap,cur,e,_⟩
 ·cases e;rfl
 ·cases e;cases ha
theorem encRL_all (r:Rec) (a:Option Addr) (n c:Nat):(encRL r (.slice a n c)).toArray.all (·.oneCell')=true:=by simp [Value.oneCell']
theorem encT_all (t:Tup):(encT t).all (·.oneCell')=true:=by simp [Value.oneCell']
theorem encF_all (f:Fl):(encF f).all (·.oneCell')=true:=by simp [Value.oneCell']
abbrev BkR (v:Value) (l:List Bk):Asrt:=RowA 119 3 v l.length (bkV l)
section
variable {F0:List Nat} {w0 w:World} {R:List Asrt}
theorem bkclone_some (h:In F0 w0 w R) {ad:Addr} {l:List Bk} {c:Nat} (hs:Src w (some ad) l.length 3 (bkV l)) (hn:l.length≤1000000) :
  Calls Tryz.prog 52 #[.slice (some ad) l.length c] w fun e w'=>∃ v,e=.returned v∧In F0 w0 w' (BkR v l::R):=by
 have HH:=Lib.hid h
 have HS:=Lib.hid hs
 clear h hs
 have hq:∀ (w:World) (a:Option Addr) (n c n' c':Nat),(binOp .eql 37 (.slice a n c) (.slice none n' c')).run Tryz.prog w=.ok (.bool a.isNone) w:=fun w a n c n' c'=>Lib.run_eql_slice_nil w _ _ a n c n' c' Tryz.underlying37
 go_enter Tryz.func52,Tryz.ntmps52
 go_wp2_with (at_builtin;refine app_list rfl ((HH.out.cells #[] 119).row0 (k:=3) 0 rfl) 0 rfl (.tmp 5) (.tmp 6) 37 (by rfl) Tryz.underlying37 infoBk (by decide) (by decide) (by rfl) (by rfl) (src_alloc HS.out _) (bkV_one _) (by omega) ?_)
 intro v' w3 ho hg
 have HO:Hid (In F0 w0 w3 (BkR v' l::R)):=Lib.hid (by simpa using ho)
 clear ho hg
 go_wp2_with fail
 go_ret
 exact⟨_,rfl,HO.out⟩
theorem bkclone_none (h:In F0 w0 w R):Calls Tryz.prog 52 #[.slice none 0 0] w fun e w'=>∃ v,e=.returned v∧In F0 w0 w' (BkR v []::R):=by
 have HH:=Lib.hid (h.rownil 119 3)
 clear h
 have hq:∀ (w:World) (a:Option Addr) (n c n' c':Nat),(binOp .eql 37 (.slice a n c) (.slice none n' c')).run Tryz.prog w=.ok (.bool a.isNone) w:=fun w a n c n' c'=>Lib.run_eql_slice_nil w _ _ a n c n' c' Tryz.underlying37
 go_enter Tryz.func52,Tryz.ntmps52
 go_wp2_with fail
 go_ret
 exact⟨_,rfl,HH.out⟩
theorem o_bkclone (h:In F0 w0 w R) {A:Option Addr} {c:Nat} {l:List Bk} (hn:A=none→c=0) (hs:Src w A l.length 3 (bkV l)) (hl:l.length≤1000000) :
  Calls Tryz.prog 52 #[.slice A l.length c] w fun e w'=>∃ v,e=.returned v∧In F0 w0 w' (BkR v l::R):=by
 cases A with
 | none=>
  obtain rfl:=hn rfl
  have:l=[]:=by
   cases l with
   | nil=>rfl
   | cons b l=>obtain⟨ad,e,_⟩:=hs.at' (by simp);cases e
  subst this
  exact bkclone_none h
 | some ad=>exact bkclone_some h hs hl
def RecPost (x:Rec) (F0:List Nat) (w0:World) (R:List Asrt) (e:Ending) (w':World):Prop:=∃ v,e=.returned (.agg (encRL x v).toArray)∧In F0 w0 w' (BkR v x.bks::R)
theorem rec_end {y:Rec} {pv:Value} {l:List Bk} {b1 b2:Nat} {C1:Array Value} {Q:List Asrt} (h:In F0 w0 w (BkR pv l::Cells b2 (encRL y pv).toArray 39::Cells b1 C1 39::Q)) (hC:C1.size=14) :
  (w.heap[b2]?=some (.cells (encRL y pv).toArray 39 (0,0))∧w.there b1 0 14)∧((w.setCells b1 0 (encRL y pv)).heap[b1]?=some (.cells (encRL y pv).toArray 39 (0,0))∧In F0 w0 (w.setCells b1 0 (encRL y pv)) (BkR pv l::Q)):=by
 have h2:=h.setFull 2 rfl (xs:=encRL y pv) (b:=b1) (C:=C1) (T:=39) (by rw [hC];rfl)
 have ht:=there_of (h.block 2 rfl)
 rw [hC] at ht
 exact⟨⟨h.block 1 rfl,ht⟩,h2.block 2 rfl,h2.sel2 (R1:=[_,_,_]) [0] (by decide) rfl⟩
end
section
variable {F0:List Nat} {w0 w:World} {R:List Asrt}
theorem o_rcplain3 {src dst proto sport dport fbk fgen fseen gen bk till count:Int} {bks:List Bk} {A:Option Addr} {c:Nat} (hs:BksAt F0 w0 R A bks) (hn:A=none→c=0) (hl:bks.length≤1000000) (h:In F0 w0 w R):Calls Tryz.prog 81 #[agR ⟨3,⟨⟨src,dst,proto,sport,dport⟩,fbk,fgen,fseen⟩,gen,bks,bk,till,count⟩ A c] w (RecPost ⟨3,zeroF,gen,bks,0,0,0⟩ F0 w0 R):=by
 obtain⟨C0,hC0⟩:∃ C,C=(encRL ⟨3,⟨⟨src,dst,proto,sport,dport⟩,fbk,fgen,fseen⟩,gen,bks,bk,till,count⟩ (.slice A bks.length c)).toArray:=⟨_,rfl⟩
 obtain⟨C1,hC1⟩:∃ C,C=(encRL zeroRec (.slice none 0 0)).toArray:=⟨_,rfl⟩
 obtain⟨C2,hC2⟩:∃ C,C=(encRL ⟨3,zeroF,0,[],0,0,0⟩ (.slice none 0 0)).toArray:=⟨_,rfl⟩
 have h3:In F0 w0 (((w.alloc (.cells C0 39)).alloc (.cells C1 39)).alloc (.cells C2 39)) (Cells (w.heap.size+1+1) C2 39::Cells (w.heap.size+1) C1 39::Cells w.heap.size C0 39::R):=by
  have h3:=((h.cells C0 39).cells C1 39).cells C2 39
  simp only [World.size_alloc] at h3
  exact h3
 have HH3:=Lib.hid (fun n=>h3.drewN n)
 have y0:=cell_of (o:=9) (h3.block 2 rfl) (show C0[9]?=some (.int .i64 gen) by rw [hC0];rfl)
 have y1:=cell_of (o:=10) (h3.block 2 rfl) (show C0[10]?=some (.slice A bks.length c) by rw [hC0];rfl)
 have K:=Lib.hid (fun w' (h':In F0 w0 w' (Cells (w.heap.size+1+1) C2 39::Cells (w.heap.size+1) C1 39::Cells w.heap.size C0 39::R))=>o_bkclone (c:=c) h' hn (hs _ h'.drop.drop.drop) hl)
 have HA:Hid (∀ w' v,In F0 w0 w' (BkR v bks::Cells (w.heap.size+1+1) C2 39::Cells (w.heap.size+1) C1 39::Cells w.heap.size C0 39::R) →
   (w'.cell? ⟨w.heap.size,9,none⟩=some (.int .i64 gen)∧w'.cell? ⟨w.heap.size,10,none⟩=some (.slice A bks.length c))∧(w'.frozen? ⟨w.heap.size+1+1,9,none⟩=false∧w'.frozen? ⟨w.heap.size+1+1,10,none⟩=false)∧(w'.cell? ⟨w.heap.size+1+1,9,none⟩=some (.int .i64 0)∧w'.cell? ⟨w.heap.size+1+1,10,none⟩=some (.slice none 0 0)) ∧
   ∃ a cc,v=.slice a bks.length cc):=Lib.hid fun w' v h'=>by
  obtain⟨F,hr⟩:=h'.get 0 rfl
  obtain⟨a,cc,e,-,-,-⟩:=RowA.shape hr
  exact⟨⟨cell_of (h'.block 3 rfl) (by rw [hC0];rfl),cell_of (h'.block 3 rfl) (by rw [hC0];rfl)⟩,⟨free_of (h'.block 1 rfl),free_of (h'.block 1 rfl)⟩,⟨cell_of (h'.block 1 rfl) (by rw [hC2];rfl),cell_of (h'.block 1 rfl) (by rw [hC2];rfl)⟩,a,cc,e⟩
 have HB:Hid (∀ w' v,In F0 w0 w' (BkR v bks::Cells (w.heap.size+1+1) C2 39::Cells (w.heap.size+1) C1 39::Cells w.heap.size C0 39::R) →
   In F0 w0 ((w'.setCell ⟨w.heap.size+1+1,9,none⟩ (.int .i64 gen)).setCell ⟨w.heap.size+1+1,10,none⟩ v) (BkR v bks::Cells (w.heap.size+1+1) (encRL ⟨3,zeroF,gen,bks,0,0,0⟩ v).toArray 39::Cells (w.heap.size+1) C1 39::Cells w.heap.size C0 39::R)):=Lib.hid fun w' v h'=>by
  have h2:=In.setCs [.int .i64 gen,v] 9 1 h' (b:=w.heap.size+1+1) (C:=C2) (T:=39) rfl
  rw [setL_at (ys:=(encRL ⟨3,zeroF,gen,bks,0,0,0⟩ v)) (by rw [hC2];simp) (by rw [hC2];simp [zeroF,zeroT])] at h2
  exact h2
 have HC:Hid (∀ w' v,In F0 w0 w' (BkR v bks::Cells (w.heap.size+1+1) (encRL ⟨3,zeroF,gen,bks,0,0,0⟩ v).toArray 39::Cells (w.heap.size+1) C1 39::Cells w.heap.size C0 39::R) →
   (w'.heap[w.heap.size+1+1]?=some (.cells (encRL ⟨3,zeroF,gen,bks,0,0,0⟩ v).toArray 39 (0,0))∧w'.there (w.heap.size+1) 0 14) ∧
   ((w'.setCells (w.heap.size+1) 0 (encRL ⟨3,zeroF,gen,bks,0,0,0⟩ v)).heap[w.heap.size+1]?=some (.cells (encRL ⟨3,zeroF,gen,bks,0,0,0⟩ v).toArray 39 (0,0))∧In F0 w0 (w'.setCells (w.heap.size+1) 0 (encRL ⟨3,zeroF,gen,bks,0,0,0⟩ v)) (BkR v bks::R))):=Lib.hid fun w' v h'=>by
  have h2:=h'.setFull 2 rfl (xs:=(encRL ⟨3,zeroF,gen,bks,0,0,0⟩ v)) (b:=w.heap.size+1) (C:=C1) (T:=39) (by rw [hC1];rfl)
  have ht:=there_of (h'.block 2 rfl)
  rw [hC1] at ht
  exact⟨⟨h'.block 1 rfl,ht⟩,h2.block 2 rfl,h2.sel2 (R1:=[_,_,_,_]) [0] (by decide) rfl⟩
 have hne1:¬ w.heap.size+1+1=w.heap.size:=by omega
 have hne2:¬ w.heap.size=w.heap.size+1+1:=by omega
 clear h h3 hs hn hl
 subst hC0 hC1 hC2
 go_enter Tryz.func81,Tryz.ntmps81
 go_wp2_with fail
 go_region_held3 (fun w'=>w'.cell? ⟨w.heap.size,9,none⟩=some (.int .i64 gen)∧w'.cell? ⟨w.heap.size,10,none⟩=some (.slice A bks.length c)) (first | exact hz | exact⟨y0,y1⟩ | go_keep)
  (first | (go_at_call 52;refine (K.out _ (HH3.out _)).mono ?_;rintro e w1 ⟨v,rfl,g1⟩;obtain⟨hz,⟨f1,f2⟩,⟨d1,d2⟩,av,cv,rfl⟩:=HA.out w1 v g1;have G2:=Lib.hid (HB.out w1 _ g1);clear g1))
 clear y0 y1 K HA HB hz HH3 f1 f2 d1 d2
 obtain⟨⟨q1,q2⟩,q3,q4⟩:=HC.out _ _ G2.out
 have Q2:=Lib.hid q2
 have Q3:=Lib.hid (And.intro q3 q4)
 clear HC G2 q2 q3 q4
 go_wp2_with (refine wpList_load_row rfl 39 (.tmp 3) rfl (w.heap.size+1+1) rfl 39 _ (0,0) _ q1 Tryz.underlying39 rfl (by kernel_rfl) ?_;refine wpList_store_mid (op:=⟨none,Op.store 39 (.tmp 2) (.tmp 48),_,_,_,_⟩) (by rfl) 39 (.tmp 2) (.tmp 48) rfl (w.heap.size+1) 0 (encRL ⟨3,zeroF,gen,bks,0,0,0⟩ (.slice av bks.length cv)).toArray (by rfl) (by rfl) Q2.out (by kernel_rfl) (encRL_all _ _ _ _) ?_)
 exact bodyPost_ret (results_cell_row Tryz.results81 _ _ (w.heap.size+1) 39 _ (0,0) _ rfl Q3.out.1 Tryz.underlying39 rfl (by kernel_rfl)) rfl ⟨_,rfl,Q3.out.2⟩
end
section
variable {F0:List Nat} {w0 w:World} {R:List Asrt}
theorem o_rcplain {r:Rec} {A:Option Addr} {c:Nat} (hs:BksAt F0 w0 R A r.bks) (hn:A=none→c=0) (hl:r.bks.length≤1000000) (h:In F0 w0 w R):Calls Tryz.prog 81 #[agR r A c] w (RecPost (plainRec r) F0 w0 R):=by
 have H:Hid (∀ w' ,In F0 w0 w' R→In F0 w0 w' (BkR (.slice none 0 0) []::R)):=Lib.hid fun w' h'=>h'.rownil _ _
 have HH:=Lib.hid h
 obtain⟨kind,fl,gen,bks,bk,till,count⟩:=r
 by_cases k1:kind=1
 ·subst k1
  have e:plainRec ⟨1,fl,gen,bks,bk,till,count⟩=⟨1,fl,0,[],0,0,0⟩:=rfl
  rw [e];clear e h hs hn hl
  obtain⟨⟨src,dst,proto,sport,dport⟩,fbk,fgen,fseen⟩:=fl
  go_enter Tryz.func81,Tryz.ntmps81
  go_wp2_with fail
  exact bodyPost_ret (results_cell_row Tryz.results81 _ _ (w.heap.size+1) 39 _ (0,0) _ rfl (heap3_mid w _ _ _) Tryz.underlying39 rfl (by kernel_rfl)) rfl ⟨.slice none 0 0,rfl,H.out _ (((HH.out.alloc _).alloc _).alloc _)⟩
 by_cases k2:kind=2
 ·subst k2
  have e:plainRec ⟨2,fl,gen,bks,bk,till,count⟩=⟨2,⟨fl.t,0,0,0⟩,0,[],0,0,0⟩:=rfl
  rw [e];clear e h hs hn hl k1
  obtain⟨⟨src,dst,proto,sport,dport⟩,fbk,fgen,fseen⟩:=fl
  go_enter Tryz.func81,Tryz.ntmps81
  go_wp2_with fail
  exact bodyPost_ret (results_cell_row Tryz.results81 _ _ (w.heap.size+1) 39 _ (0,0) _ rfl (heap3_mid w _ _ _) Tryz.underlying39 rfl (by kernel_rfl)) rfl ⟨.slice none 0 0,rfl,H.out _ (((HH.out.alloc _).alloc _).alloc _)⟩
 by_cases k3:kind=3
 ·subst k3
  have e:plainRec ⟨3,fl,gen,bks,bk,till,count⟩=⟨3,zeroF,gen,bks,0,0,0⟩:=rfl
  rw [e];clear e k1 k2
  obtain⟨⟨src,dst,proto,sport,dport⟩,fbk,fgen,fseen⟩:=fl
  exact o_rcplain3 hs hn hl h
 by_cases k4:kind=4
 ·subst k4
  have e:plainRec ⟨4,fl,gen,bks,bk,till,count⟩=⟨4,zeroF,0,[],bk,till,0⟩:=rfl
  rw [e];clear e h hs hn hl k1 k2 k3
  go_enter Tryz.func81,Tryz.ntmps81
  go_wp2_with fail
  have hne1:¬ w.heap.size+1+1=w.heap.size:=by omega
  have hne2:¬ w.heap.size=w.heap.size+1+1:=by omega
  go_region_held3 (fun w'=>w'.cell? ⟨w.heap.size,11,none⟩=some (.int .i64 bk)∧w'.cell? ⟨w.heap.size,12,none⟩=some (.int .i64 till)) (first | exact⟨rfl,rfl⟩ | (refine⟨?_,?_⟩ <;> go_simp;done) | go_keep) (fail)
  go_wp2_with fail
  exact bodyPost_ret (results_cell_row Tryz.results81 _ _ (w.heap.size+1) 39 _ (0,0) _ rfl (heap3_mid w _ _ _) Tryz.underlying39 rfl (by kernel_rfl)) rfl ⟨.slice none 0 0,rfl,H.out _ ((((HH.out.alloc _).alloc _).alloc _).drewN 1)⟩
 by_cases k5:kind=5
 ·subst k5
  have e:plainRec ⟨5,fl,gen,bks,bk,till,count⟩=⟨5,zeroF,0,[],bk,0,0⟩:=rfl
  rw [e];clear e h hs hn hl k1 k2 k3 k4
  go_enter Tryz.func81,Tryz.ntmps81
  go_wp2_with fail
  exact bodyPost_ret (results_cell_row Tryz.results81 _ _ (w.heap.size+1) 39 _ (0,0) _ rfl (heap3_mid w _ _ _) Tryz.underlying39 rfl (by kernel_rfl)) rfl ⟨.slice none 0 0,rfl,H.out _ (((HH.out.alloc _).alloc _).alloc _)⟩
 by_cases k6:kind=6
 ·subst k6
  have e:plainRec ⟨6,fl,gen,bks,bk,till,count⟩=⟨6,zeroF,0,[],0,0,count⟩:=rfl
  rw [e];clear e h hs hn hl k1 k2 k3 k4 k5
  go_enter Tryz.func81,Tryz.ntmps81
  go_wp2_with fail
  exact bodyPost_ret (results_cell_row Tryz.results81 _ _ (w.heap.size+1) 39 _ (0,0) _ rfl (heap3_mid w _ _ _) Tryz.underlying39 rfl (by kernel_rfl)) rfl ⟨.slice none 0 0,rfl,H.out _ (((HH.out.alloc _).alloc _).alloc _)⟩
 ·have e:plainRec ⟨kind,fl,gen,bks,bk,till,count⟩=⟨kind,zeroF,0,[],0,0,0⟩:=by unfold plainRec;simp only;rw [if_neg k1,if_neg k2,if_neg k3,if_neg k4,if_neg k5,if_neg k6]
  have q1:(kind == 1)=false:=beq_eq_false_iff_ne.2 k1
  have q2:(kind == 2)=false:=beq_eq_false_iff_ne.2 k2
  have q3:(kind == 3)=false:=beq_eq_false_iff_ne.2 k3
  have q4:(kind == 4)=false:=beq_eq_false_iff_ne.2 k4
  have q5:(kind == 5)=false:=beq_eq_false_iff_ne.2 k5
  have q6:(kind == 6)=false:=beq_eq_false_iff_ne.2 k6
  rw [e];clear e h hs hn hl k1 k2 k3 k4 k5 k6
  go_enter Tryz.func81,Tryz.ntmps81
  go_wp2_with fail
  exact bodyPost_ret (results_cell_row Tryz.results81 _ _ (w.heap.size+1) 39 _ (0,0) _ rfl (heap3_mid w _ _ _) Tryz.underlying39 rfl (by kernel_rfl)) rfl ⟨.slice none 0 0,rfl,H.out _ (((HH.out.alloc _).alloc _).alloc _)⟩
end
end Go.Proofs.YtpmmiljakbojaaaGreat
