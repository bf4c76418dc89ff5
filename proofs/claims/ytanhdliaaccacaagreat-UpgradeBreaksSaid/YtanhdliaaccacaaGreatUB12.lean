/- .. -/
import Derived.Test.YtanhdliaaccacaaGreatUB6
import Derived.Test.YtanhdliaaccacaaGreatUB11
import Derived.Test.YtanhdliaaccacaaGreatUB5
namespace Go.Proofs.YtanhdliaaccacaaGreat
open Go.RowKit
set_option linter.unusedVariables false
set_option maxHeartbeats 64000000
set_option maxRecDepth 100000
structure pK where
 l:bI
 st:eT
 sure:eT
abbrev SD:=ae×pK
def kX (d:ae):Int×Int:=
 match iy d bG with
 | none=>(0,6)
 | some b=>(((bE b).1.ak:Int),(bE b).2)
def createS (v size:Int) (d:ae):ae×Option pK×Int:=
 match (cu v size d).2.1 with
 | none=>((cu v size d).1,none,(cu v size d).2.2)
 | some l=>((cu v size d).1,some ⟨l,aH,aH⟩,0)
/-! ### Names of segments,read -/
def qp (x:UInt8):Bool:=decide (48≤x.toNat∧x.toNat≤57)
def lQ (l:List UInt8):Nat:=l.foldl (fun n x=>n * 10+(x.toNat - 48)) 0
def sZ (n:ByteArray):Option Nat:=
 match n.data.toList with
 | h::t=>if h=115∧t.length=6∧t.all qp=true∧0 < lQ t then some (lQ t) else none
 | []=>none
theorem Dq (l:List UInt8) (x:UInt8):lQ (l++[x])=lQ l * 10+(x.toNat - 48):=by simp [lQ]
theorem xS {x:UInt8} {n k:Nat} (hx:qp x=true) (h:n / 10 ^ k % 10=x.toNat - 48):zo n k=x:=by
 simp only [qp,decide_eq_true_eq] at hx
 unfold zo
 rw [h]
 apply UInt8.toNat.inj
 rw [UInt8.toNat_ofNat']
 omega
theorem QL {n:ByteArray} {k:Nat} (h:sZ n=some k):n=ai k∧1≤k∧k < 1000000:=by
 unfold sZ at h
 rcases e:n.data.toList with _ | ⟨x,t⟩
 ·rw [e] at h;simp at h
 ·rw [e] at h
  simp only at h
  split at h
  ·rename_i hc
   obtain⟨rfl,hl,hd,h0⟩:=hc
   injection h with h
   subst h
   match t,hl,hd,h0,e with
   | [a,b,c,d,e',f],_,hd,h0,e=>
    simp only [List.all_cons,List.all_nil,Bool.and_true,Bool.and_eq_true] at hd
    obtain⟨ha,hb,hc,hd',he,hf⟩:=hd
    have q:lQ [a,b,c,d,e',f]=(((((a.toNat - 48) * 10+(b.toNat - 48)) * 10+(c.toNat - 48)) * 10+(d.toNat - 48)) * 10+(e'.toNat - 48)) * 10+(f.toNat - 48):=by simp [lQ]
    have la:=ha;have lb:=hb;have lc:=hc;have ld:=hd';have le:=he;have lf:=hf
    simp only [qp,decide_eq_true_eq] at la lb lc ld le lf
    have hlt:lQ [a,b,c,d,e',f] < 1000000:=by omega
    refine⟨?_,h0,hlt⟩
    rw [oO ⟨h0,hlt⟩]
    have d5:=xS (n:=lQ [a,b,c,d,e',f]) (k:=5) ha (by rw [q];omega)
    have d4:=xS (n:=lQ [a,b,c,d,e',f]) (k:=4) hb (by rw [q];omega)
    have d3:=xS (n:=lQ [a,b,c,d,e',f]) (k:=3) hc (by rw [q];omega)
    have d2:=xS (n:=lQ [a,b,c,d,e',f]) (k:=2) hd' (by rw [q];omega)
    have d1:=xS (n:=lQ [a,b,c,d,e',f]) (k:=1) he (by rw [q];omega)
    have d0:=xS (n:=lQ [a,b,c,d,e',f]) (k:=0) hf (by rw [q];omega)
    rw [d5,d4,d3,d2,d1,d0]
    cases n with
    | mk data=>simp only at e;rw [← e]
  ·cases h
/-! ### What is no part of the log goes -/
def dirtyD (l:bI) (n:ByteArray):Bool:=decide (n=az) || (match sZ n with | some k=>!l.m.aa.contains k | none=>false)
def iC (l:bI):List ByteArray→ae→ae
 | [],d=>d
 | n::r,d=>iC l r (if dirtyD l n=true then (cO d n).1 else d)
theorem yR (l:bI):∀ (L:List ByteArray) (n:ByteArray) (d:ae),iC l (L++[n]) d=if dirtyD l n=true then (cO (iC l L d) n).1 else iC l L d
 | [],n,d=>rfl
 | x::r,n,d=>yR l r n _
theorem NM {l:bI} {n:ByteArray} (hm:∀ s∈l.m.aa,1≤s∧s < 1000000) (h:dirtyD l n=true):¬ Mine l.m.aa n:=by
 unfold dirtyD at h
 simp only [Bool.or_eq_true,decide_eq_true_eq] at h
 rcases h with h | h
 ·rw [h];exact rE
 ·cases e:sZ n with
  | none=>rw [e] at h;cases h
  | some k=>
   rw [e] at h
   simp only [Bool.not_eq_true',List.contains_eq_mem,decide_eq_false_iff_not] at h
   obtain⟨rfl,hk⟩:=QL e
   exact lL hm h
theorem Bc {l:bI} {Fr:List cz} {s:Nat}:∀ (L:List ByteArray) (d:ae),eZ d l.m Fr s→eZ (iC l L d) l.m Fr s
 | [],_,h=>h
 | n::r,d,h=>by
  refine Bc r _ ?_
  split
  ·rename_i hd
   exact h.other (fun _ h=>h) (dG.remove h.ok (NM h.valid hd)) (nZ h.ok n)
  ·exact h
theorem xU (l:bI):∀ (L:List ByteArray) (d:ae),(iC l L d).ops≤d.ops+L.length
 | [],d=>Nat.le_refl _
 | n::r,d=>by
  have h1:=xU l r (if dirtyD l n=true then (cO d n).1 else d)
  have h2:(if dirtyD l n=true then (cO d n).1 else d).ops≤d.ops+1:=by
   split
   ·have:=(Et d n n [] 0).2.2.2.2.1;omega
   ·omega
  show (iC l r _).ops≤d.ops+(r.length+1)
  omega
/-! ### The store's calls -/
def mg (ak size:Int) (d:ae):ae×Option pK×Int:=
 if (kX d).2≠0 then (d,none,(kX d).2)
 else if ak < (kX d).1∨3 < ak then (d,none,10)
 else match (df eP size d aH).2.2.1 with
  | none=>((df eP size d aH).2.1,none,(df eP size d aH).2.2.2)
  | some l=>(iC l (iA (df eP size d aH).2.1) (df eP size d aH).2.1,some ⟨l,(df eP size d aH).1,(df eP size d aH).1⟩,0)
def fI (r:Rec) (s:SD):cz×Int:=dI r s.2.l.m.ak
def fG (r:Rec) (s:SD):DL×Int:=bY (fI r s).1.kind (fI r s).1.body (s.1,s.2.l)
def bW (r:Rec) (s:SD):SD×Int:=
 if bR r=false∨r.kind=6 then (s,1)
 else if (aX s.2.st r).2≠0 then (s,(aX s.2.st r).2)
 else if (fI r s).2≠0 then (s,(fI r s).2)
 else if (fG r s).2≠0 then (((fG r s).1.1,⟨(fG r s).1.2,s.2.st,s.2.sure⟩),(fG r s).2)
 else (((fG r s).1.1,⟨(fG r s).1.2,(aX s.2.st (dB r (fG r s).1.2.m.ak)).1,s.2.sure⟩),(aX s.2.st (dB r (fG r s).1.2.m.ak)).2)
def jM (s:SD):SD×Int:=
 (((fM (s.1,s.2.l)).1.1,⟨(fM (s.1,s.2.l)).1.2,s.2.st,if (fM (s.1,s.2.l)).2=0 then s.2.st else s.2.sure⟩),(fM (s.1,s.2.l)).2)
def dR (ak:Int) (st:eT):List cz:=(aS st).map (fun r=>(dI r ak).1)
def fZ (ak:Int) (st:eT) (s:SD):DL×Int:=fD ak.toNat ((dR ak st).map aj) (s.1,s.2.l)
def fq (ak:Int) (st:eT) (s:SD):SD×Int:=
 if ak < s.2.l.m.ak∨3 < ak then (s,10)
 else (((fZ ak st s).1.1,⟨(fZ ak st s).1.2,if s.2.l.m.aa=(fZ ak st s).1.2.m.aa then s.2.st else eG ak st,if (fZ ak st s).2=0 then eG ak st else s.2.sure⟩),(fZ ak st s).2)
/-! ### Laws of the parts -/
theorem nS.dB {r:Rec} (h:nS r) (v:Int):nS (dB r v):=by
 have hz:GK eO:=by constructor <;> decide
 have ht:GK (aN r).fl.t:=by
  unfold aN
  split
  ·exact h.t
  ·split
   ·exact h.t
   ·repeat' split
    all_goals exact hz
 have ha:∀ b∈(aN r).au,0≤b.addr∧b.addr < 4294967296:=by
  unfold aN
  repeat' split
  all_goals first | exact h.addr | (intro b hb;simp at hb)
 unfold Go.Proofs.YtanhdliaaccacaaGreat.dB
 split
 ·exact⟨hz,by simp [aM]⟩
 ·refine⟨?_,?_⟩
  ·simp only
   split
   ·exact ht
   ·exact ht
  ·intro b hb
   simp only [List.mem_map] at hb
   obtain⟨x,hx,rfl⟩:=hb
   rw [(zF v x).2];exact ha x hx
theorem rF {d:ae} {l:bI} (h:(aY (d,l)).1.2.loose=true):l.loose=true:=by
 unfold aY at h
 simp only at h
 split at h
 ·assumption
 ·exact h
theorem Bd {d:ae} {l:bI} (h:(fM (d,l)).1.2.loose=true):l.loose=true:=by
 unfold fM bM gW at h
 split at h
 ·exact rF h
 ·exact rF h
theorem wL {d:ae} {l:bI} {Fr mD:List cz} {s s0:Nat} (h:iB d l Fr s mD s0) (kind:Int) (body:List UInt8) (hl:(bY kind body (d,l)).1.2.loose=true) (hn:l.loose=true→Fr≠[]):Fr≠[]:=by
 by_cases h0:l.loose=true
 ·exact hn h0
 have hl0:l.loose=false:=by cases e:l.loose <;> simp_all
 intro hFr
 subst hFr
 have hset:aY (d,l)=((d,l),0):=by unfold aY;simp [hl0]
 have hb:bytesD d (bz l)=0:=by
  obtain⟨C,L,k,g1,g2,g3⟩:=h.now.2.2
  have hL:L=[]:=by
   have:=congrArg List.length g2
   simp at this
   exact List.eq_nil_of_length_eq_zero (by omega)
  have hr:=g1.last.read
  rw [← jJ g1.len] at hr
  unfold bytesD
  rw [hr,hL];rfl
 unfold bY at hl
 simp only at hl
 split at hl
 ·simp [hl0] at hl
 ·rw [hset,aT (r:=((d,l),(0:Int))) rfl] at hl
  simp only at hl
  rw [if_pos (by unfold lI;simp [hb])] at hl
  rw [aT (r:=((d,l),(0:Int))) rfl] at hl
  unfold gW at hl
  simp [hl0] at hl
theorem Dr {d:ae} {l:bI} {Fr mD:List cz} {s s0:Nat} (h:iB d l Fr s mD s0) (ak:Nat) (R:List cz) (hR:∀ f∈R,ji f∧f.ak=ak) :
  (fD ak (R.map aj) (d,l)).1.2.size=l.size ∧
  (((fD ak (R.map aj) (d,l)).2=0∧(fD ak (R.map aj) (d,l)).1.2.loose=false∧(fD ak (R.map aj) (d,l)).1.2.m.ak=ak∧l.m.aa≠(fD ak (R.map aj) (d,l)).1.2.m.aa∧eZ (fD ak (R.map aj) (d,l)).1.1 (fD ak (R.map aj) (d,l)).1.2.m R R.length) ∨
    ((fD ak (R.map aj) (d,l)).2≠0∧(((fD ak (R.map aj) (d,l)).1.2.m=l.m∧((fD ak (R.map aj) (d,l)).1.2.loose=true→l.loose=true)∧iB (fD ak (R.map aj) (d,l)).1.1 (fD ak (R.map aj) (d,l)).1.2 Fr s mD s0) ∨
    ((fD ak (R.map aj) (d,l)).1.2.m.ak=ak∧l.m.aa≠(fD ak (R.map aj) (d,l)).1.2.m.aa∧iB (fD ak (R.map aj) (d,l)).1.1 (fD ak (R.map aj) (d,l)).1.2 R R.length Fr s)))):=by
 unfold fD
 simp only
 have h1:=vB h
 have hsl:=rF (d:=d) (l:=l)
 generalize aY (d,l)=r at *
 rcases h1 with ⟨h2,h3,h4⟩|⟨h2,h3,h4⟩
 case inr=>
  rw [if_pos h2,h3]
  exact⟨rfl,Or.inr ⟨h2,Or.inl ⟨rfl,fun e=>e,h4⟩⟩⟩
 rw [if_neg (by simp [h2])]
 obtain⟨⟨d1,l1⟩,e1⟩:=r
 simp only at h2 h3 h4 ⊢
 subst h3
 have hv:=h4.valid
 have hlt:∀ x∈l.m.aa,x < l.m.next:=fun x hx=>(dY h4.now.1 hx).2.1
 have hne0:l.m.aa≠[]:=fun e=>by have:=(bQ.1 h4.now.1).1.2.2.1;rw [e] at this;simp at this
 have hn1:1≤l.m.next:=(bQ.1 h4.now.1).1.2.2.2.2.1
 have h5:=Ba (l:=⟨l.size,l.m,false⟩) h4.ok h4.now.1 R hR
 simp only at h5
 generalize fK ⟨l.size,l.m,false⟩ (R.map aj) d1=r2 at *
 have hdrop:∀ (d2:ae),Beside d1 l.m r2.1→eZ d2 l.m Fr s→eZ (dropD r2.1.2.1 d2) l.m Fr s:=fun d2 hb hf=>by
  obtain⟨o1,k1⟩:=vE (K:=Mine l.m.aa) r2.1.2.1 d2 hf.ok (fun x hx=>lL hv (fun hm=>by have:=hlt _ hm;have:=hb.mem hx;omega))
  exact hf.other (fun _ hn=>hn) o1 k1
 rcases h5 with ⟨q1,q2,q3⟩|⟨q1,q2⟩
 case inr=>
  rw [if_pos q1]
  exact⟨rfl,Or.inr ⟨q1,Or.inl ⟨rfl,(fun e=>by cases e),Or.inl ⟨rfl,hdrop _ q2 (h4.other (fun _ hn=>hn) q2.other q2.ok)⟩⟩⟩⟩
 rw [if_neg (by simp [q1])]
 have f3:=h4.other (fun _ hn=>hn) q2.beside.other q2.beside.ok
 have hS:jf r2.1.1.now r2.1.1.files (gX ak ⟨l.size,l.m,false⟩ r2.1.2.1).aa (gX ak ⟨l.size,l.m,false⟩ r2.1.2.1).ak R R.length:=by
  rcases q2.held with ⟨e,_⟩|⟨C,L,k,g1,rfl,g3,g4⟩
  ·exact absurd e q3
  ·exact⟨C,L,k,g1,rfl,by rw [List.length_append];have:=g4 rfl;omega⟩
 have hc:=sS f3 hS
 unfold dD
 simp only
 have hbb:=q2.beside
 have ZM:l.m.aa≠r2.1.2.1:=fun e=>by
  obtain⟨x,hx⟩:=List.exists_mem_of_ne_nil _ hne0
  have g1:=hlt x hx
  rw [e] at hx
  have g2:=hbb.mem hx
  (try simp only at g2)
  omega
 generalize hm':gX ak ⟨l.size,l.m,false⟩ r2.1.2.1=m' at *
 have Ig:m'.aa=r2.1.2.1:=by rw [← hm'];rfl
 have iK:m'.ak=ak:=by rw [← hm'];rfl
 generalize aG m' r2.1.1=r3 at *
 rcases hc with ⟨b1,b2,b3⟩|⟨b1,b2,b3,b4⟩|⟨b1,b2,b3⟩
 ·rw [if_neg b2,if_neg (by rw [b1];simp),if_neg (by rw [b1];simp)]
  exact⟨rfl,Or.inr ⟨b2,Or.inl ⟨rfl,(fun e=>by cases e),Or.inl ⟨rfl,hdrop _ hbb b3⟩⟩⟩⟩
 ·rw [if_pos b2,if_pos b1]
  obtain⟨o1,k1⟩:=wJ (K:=Mine m'.aa) l.m.aa r3.1 b4.ok (fun x hx=>lL b4.valid (fun hm=>by rw [Ig] at hm;have:=hlt _ hx;have:=hbb.mem hm;omega))
  exact⟨rfl,Or.inl ⟨rfl,by simp [b2],iK,by rw [Ig];exact ZM,b4.other (fun _ hn=>hn) o1 k1⟩⟩
 ·rw [if_neg b2,if_pos b1,if_pos b1]
  exact⟨rfl,Or.inr ⟨b2,Or.inr ⟨iK,by rw [Ig];exact ZM,Or.inr ⟨by simp [b2],b3⟩⟩⟩⟩
/-! ### What holds of it -/
theorem vF {ak:Nat}:∀ (l:List cz) (s:eT),(∀ f∈l,f.ak=ak)→tellAll eP ak l s=rdAll l s
 | [],s,_=>rfl
 | f::r,s,h=>by
  show (if f.ak≠ak then (s,3) else if (eP s f).2≠0 then eP s f else tellAll eP ak r (eP s f).1)=if (eP s f).2≠0 then eP s f else rdAll r (eP s f).1
  rw [if_neg (by simp [h f (by simp)]),vF r _ (fun x hx=>h x (List.mem_cons_of_mem _ hx))]
structure gH (s:SD) (Fr:List cz) (k:Nat) (mD:List cz) (k0:Nat):Prop where
 log:iB s.1 s.2.l Fr k mD k0
 st:rdAll Fr aH=(s.2.st,0)
 ok:gm s.2.st
 oks:gm s.2.sure
 ne:s.2.l.loose=true→Fr≠[]
theorem gH.ak {s:SD} {Fr:List cz} {k:Nat} {mD:List cz} {k0:Nat} (h:gH s Fr k mD k0):di (s.2.l.m.ak:Int)=true:=by
 have:=h.log.now.1
 have:=(bQ.1 this).1
 unfold di;simp;omega
theorem gH.write {s:SD} {Fr:List cz} {k:Nat} {mD:List cz} {k0:Nat} (h:gH s Fr k mD k0) {r:Rec} (wr:nS r) :
  (bW r s).1.2.l.size=s.2.l.size∧(bW r s).1.2.l.m.ak=s.2.l.m.ak∧(bW r s).1.2.sure=s.2.sure ∧
  (((bW r s).2=0∧∃ f,gH (bW r s).1 (Fr++[f]) k (Fr++[f]) k∧(bW r s).1.2.l.loose=false) ∨
    ((bW r s).2≠0∧(bW r s).1.2.st=s.2.st∧(gH (bW r s).1 Fr k mD k0∨gH (bW r s).1 Fr k Fr k))):=by
 have hv:=h.ak
 unfold bW
 by_cases c1:bR r=false∨r.kind=6
 ·rw [if_pos c1];exact⟨rfl,rfl,rfl,Or.inr ⟨by simp,rfl,Or.inl h⟩⟩
 rw [if_neg c1]
 have hm:bR r=true:=by cases e:bR r <;> simp_all
 have h6:r.kind≠6:=fun e=>c1 (Or.inr e)
 by_cases c2:(aX s.2.st r).2=0
 case neg=>rw [if_pos c2];exact⟨rfl,rfl,rfl,Or.inr ⟨c2,rfl,Or.inl h⟩⟩
 rw [if_neg (by simp [c2])]
 have he:=qU wr hv hm
 have c3:(fI r s).2=0:=he.1
 rw [if_neg (by simp [c3])]
 have hfr:=Hg (s:=s.2.st) wr hv hm h6
 have hai:=Hf (s:=s.2.st) hv c2
 have hok:=Ai (r:=r) (v:=s.2.l.m.ak) he.1
 have ha:=vC h.log ((fI r s).1.kind:Int) (fI r s).1.body
 rw [show bY ((fI r s).1.kind:Int) (fI r s).1.body (s.1,s.2.l)=fG r s from rfl] at ha
 obtain⟨a1,a2,a3⟩:=ha
 have hft:(⟨((fI r s).1.kind:Int).toNat,s.2.l.m.ak,(fI r s).1.body⟩:cz)=(dI r s.2.l.m.ak).1:=by
  have h2:=hok.2.1
  show (⟨((dI r s.2.l.m.ak).1.kind:Int).toNat,s.2.l.m.ak,(dI r s.2.l.m.ak).1.body⟩:cz)=(dI r s.2.l.m.ak).1
  generalize dI r s.2.l.m.ak=y at h2 ⊢
  rcases y with ⟨⟨a,b,c⟩,e⟩
  simp only [Int.toNat_natCast] at h2 ⊢
  subst h2;rfl
 rw [hft] at a3
 by_cases c4:(fG r s).2=0
 case neg=>
  rw [if_pos c4]
  refine⟨a1,a2,rfl,Or.inr ⟨c4,rfl,?_⟩⟩
  rcases a3 with ⟨e,_⟩|⟨_,g | g⟩
  ·exact absurd e c4
  ·exact Or.inl ⟨g,h.st,h.ok,h.oks,fun e=>wL h.log _ _ e h.ne⟩
  ·exact Or.inr ⟨g,h.st,h.ok,h.oks,fun e=>wL h.log _ _ e h.ne⟩
 rw [if_neg (by simp [c4]),a2]
 refine⟨a1,rfl,rfl,Or.inl ⟨hai,(dI r s.2.l.m.ak).1,?_⟩⟩
 rcases a3 with ⟨_,g1,g2⟩|⟨e,_⟩
 ·refine⟨⟨Or.inl ⟨g1,g2⟩,?_,?_,h.oks,fun _=>by simp⟩,g1⟩
  ·rw [CX,h.st,if_neg (by simp)]
   show (if (eP s.2.st _).2≠0 then eP s.2.st _ else rdAll [] (eP s.2.st _).1)=_
   rw [hfr,if_neg (by simp [hai])]
   show ((aX s.2.st (dB r s.2.l.m.ak)).1,(0:Int))=_
   rfl
  ·exact h.ok.apply (nS.dB wr _)
 ·exact absurd c4 e
theorem gH.sync {s:SD} {Fr:List cz} {k:Nat} {mD:List cz} {k0:Nat} (h:gH s Fr k mD k0) :
  (jM s).1.2.l.size=s.2.l.size∧(jM s).1.2.l.m=s.2.l.m∧(jM s).1.2.st=s.2.st ∧
  (((jM s).2=0∧(jM s).1.2.sure=s.2.st∧(jM s).1.2.l.loose=false∧gH (jM s).1 Fr Fr.length Fr Fr.length)∨((jM s).2≠0∧(jM s).1.2.sure=s.2.sure∧gH (jM s).1 Fr k mD k0)):=by
 obtain⟨a1,a2,a3⟩:=QE h.log
 refine⟨a1,a2,rfl,?_⟩
 rcases a3 with ⟨e,g1,g2⟩|⟨e,g⟩
 ·refine Or.inl ⟨e,if_pos e,g1,⟨Or.inl ⟨g1,?_⟩,h.st,h.ok,?_,fun e'=>h.ne (Bd e')⟩⟩
  ·show eZ _ (fM (s.1,s.2.l)).1.2.m Fr Fr.length
   rw [a2];exact g2
  ·show gm (if (fM (s.1,s.2.l)).2=0 then s.2.st else s.2.sure)
   rw [if_pos e];exact h.ok
 ·refine Or.inr ⟨e,if_neg e,⟨g,h.st,h.ok,?_,fun e'=>h.ne (Bd e')⟩⟩
  show gm (if (fM (s.1,s.2.l)).2=0 then s.2.st else s.2.sure)
  rw [if_neg e];exact h.oks
theorem rows_ok {st:eT} (h:gm st) {v:Int} (hv:di v=true):∀ f∈dR v st,ji f∧f.ak=v.toNat:=by
 intro f hf
 obtain⟨r,hr,rfl⟩:=List.mem_map.1 hf
 obtain⟨w1,w2,w3⟩:=nS.recs h r hr
 have:=Ai (qU w1 hv w2).1
 exact⟨this.1,this.2.1⟩
theorem gH.swap {s:SD} {Fr:List cz} {k:Nat} {mD:List cz} {k0:Nat} (h:gH s Fr k mD k0) {v:Int} {st:eT} (hs:gm st) (hv:(s.2.l.m.ak:Int)≤v∧v≤3) :
  (fq v st s).1.2.l.size=s.2.l.size ∧
  (((fq v st s).2=0∧(fq v st s).1.2.l.loose=false∧((fq v st s).1.2.l.m.ak:Int)=v∧(fq v st s).1.2.sure=eG v st∧gH (fq v st s).1 (dR v st) (dR v st).length (dR v st) (dR v st).length∧(fq v st s).1.2.st=eG v st) ∨
    ((fq v st s).2≠0∧(fq v st s).1.2.sure=s.2.sure ∧
   (((fq v st s).1.2.l.m.ak=s.2.l.m.ak∧(fq v st s).1.2.st=s.2.st∧gH (fq v st s).1 Fr k mD k0) ∨
     (((fq v st s).1.2.l.m.ak:Int)=v∧(fq v st s).1.2.st=eG v st∧gH (fq v st s).1 (dR v st) (dR v st).length Fr k)))):=by
 have hvk:di v=true:=by
  have:=h.ak
  unfold di at this ⊢;simp at this ⊢;omega
 unfold fq
 rw [if_neg (by omega)]
 have TN:(v.toNat:Int)=v:=by
  have:=h.ak
  unfold di at this;simp at this;omega
 obtain⟨a1,a2⟩:=Dr h.log v.toNat (dR v st) (rows_ok hs hvk)
 rw [show fD v.toNat ((dR v st).map aj) (s.1,s.2.l)=fZ v st s from rfl] at a1 a2
 have hrd:rdAll (dR v st) aH=(eG v st,0):=uY hs hvk
 have hne:dR v st≠[]:=by unfold dR aS;simp
 refine⟨a1,?_⟩
 rcases a2 with ⟨e,g1,g2,g3,g4⟩|⟨e,⟨g1,g2,g3⟩|⟨g1,g2,g3⟩⟩
 ·refine Or.inl ⟨e,g1,by rw [show (_:Int)=((fZ v st s).1.2.m.ak:Int) from rfl,g2,TN],if_pos e,⟨Or.inl ⟨g1,g4⟩,?_,?_,?_,fun _=>hne⟩,if_neg g3⟩
  ·show rdAll _ aH=((if s.2.l.m.aa=(fZ v st s).1.2.m.aa then s.2.st else eG v st),0)
   rw [if_neg g3];exact hrd
  ·show gm (if s.2.l.m.aa=(fZ v st s).1.2.m.aa then s.2.st else eG v st)
   rw [if_neg g3];exact hs.eG v
  ·show gm (if (fZ v st s).2=0 then eG v st else s.2.sure)
   rw [if_pos e];exact hs.eG v
 ·have hseg:s.2.l.m.aa=(fZ v st s).1.2.m.aa:=by rw [g1]
  refine Or.inr ⟨e,if_neg e,Or.inl ⟨by show (fZ v st s).1.2.m.ak=_;rw [g1],if_pos hseg,⟨g3,?_,?_,?_,fun e'=>h.ne (g2 e')⟩⟩⟩
  ·show rdAll _ aH=((if s.2.l.m.aa=(fZ v st s).1.2.m.aa then s.2.st else eG v st),0)
   rw [if_pos hseg];exact h.st
  ·show gm (if s.2.l.m.aa=(fZ v st s).1.2.m.aa then s.2.st else eG v st)
   rw [if_pos hseg];exact h.ok
  ·show gm (if (fZ v st s).2=0 then eG v st else s.2.sure)
   rw [if_neg e];exact h.oks
 ·refine Or.inr ⟨e,if_neg e,Or.inr ⟨by rw [show (_:Int)=((fZ v st s).1.2.m.ak:Int) from rfl,g1,TN],if_neg g2,⟨g3,?_,?_,?_,fun _=>hne⟩⟩⟩
  ·show rdAll _ aH=((if s.2.l.m.aa=(fZ v st s).1.2.m.aa then s.2.st else eG v st),0)
   rw [if_neg g2];exact hrd
  ·show gm (if s.2.l.m.aa=(fZ v st s).1.2.m.aa then s.2.st else eG v st)
   rw [if_neg g2];exact hs.eG v
  ·show gm (if (fZ v st s).2=0 then eG v st else s.2.sure)
   rw [if_neg e];exact h.oks
theorem Mx {d:ae} {m:cZ} {Fr:List cz} (h:lM d m Fr):kX d=((m.ak:Int),0):=by
 unfold kX
 rw [h.head.read]
 simp only [Ms h.may]
theorem EJ {d:ae} {m:cZ} {Fr:List cz} (h:lM d m Fr) (hf:d.fail=0) {st:eT} (hr:rdAll Fr aH=(st,0)) (hok:gm st) {ak:Int} (size:Int) (hv:(m.ak:Int)≤ak∧ak≤3) :
  ∃ d',mg ak size d=(d',some ⟨⟨sized size,m,false⟩,st,st⟩,0)∧gH (d',⟨⟨sized size,m,false⟩,st,st⟩) Fr Fr.length Fr Fr.length:=by
 obtain⟨d',h1,h2,h3⟩:=Mt eP h hf size aH
 rw [vF _ _ (fun f hf=>(h.ak f hf).2),hr,if_neg (by simp)] at h1
 refine⟨iC ⟨sized size,m,false⟩ (iA d') d',?_,⟨Or.inl ⟨rfl,Bc _ _ h2⟩,hr,hok,hok,(fun e=>by cases e)⟩⟩
 unfold mg
 rw [Mx h,if_neg (by simp),if_neg (by simp only;omega),h1]
theorem gH.qj {s:SD} {Fr:List cz} {k:Nat} (h:gH s Fr k Fr k) (p:List UInt8) :
  ∃ m0 j,k≤j∧j≤Fr.length∧m0.ak=s.2.l.m.ak∧lM (gz s.1 p) m0 (Fr.take j):=by
 have hfr:=h.log.now.2.2.frames
 rcases h.log with ⟨h1,h2⟩|⟨hl,h2⟩
 ·obtain⟨j,j1,j2,j3⟩:=(h2.now.congr (h2.st _ (jU s.1 p)) (fun _ _ _ _=>rfl)).qj h2.ok p
  exact⟨_,j,j1,j2,rfl,j3⟩
 ·rcases h2.st _ (jU s.1 p) with h3 | ⟨m0,h3⟩
  ·obtain⟨j,j1,j2,j3⟩:=(h2.now.congr h3 (fun _ _ _ _=>rfl)).qj h2.ok p
   exact⟨_,j,j1,j2,rfl,j3⟩
  ·obtain⟨j,j1,j2,j3⟩:=h3.qj h2.ok p
   refine⟨m0,j,j1,j2,?_,j3⟩
   obtain⟨f,hf⟩:=List.exists_mem_of_ne_nil _ (h.ne hl)
   rw [← (h3.2.2.frames f hf).2,(hfr f hf).2]
/-! ### Where nothing fails -/
structure rW (s:SD) (Fr:List cz) (k n:Nat):Prop where
 inv:gH s Fr k Fr k
 loose:s.2.l.loose=false
 rm:Rm s.1 (600 * n) (2 * n)
 aa:s.2.l.m.aa.length+n≤64
 next:s.2.l.m.next+n≤1000000
theorem gH.EK {s:SD} {Fr:List cz} {k:Nat} {mD:List cz} {k0:Nat} (h:gH s Fr k mD k0) (hl:s.2.l.loose=false):eZ s.1 s.2.l.m Fr k:=by
 rcases h.log with ⟨_,g⟩|⟨e,_⟩
 ·exact g
 ·rw [hl] at e;cases e
theorem Dt {r:Rec} {s:SD} (h:(bW r s).2=0):bR r=true∧(bW r s).1.1=(fG r s).1.1∧(bW r s).1.2.l=(fG r s).1.2:=by
 unfold bW at h ⊢
 by_cases c1:bR r=false∨r.kind=6
 ·rw [if_pos c1] at h;simp at h
 rw [if_neg c1] at h ⊢
 have hm:bR r=true:=by cases e:bR r <;> simp_all
 by_cases c2:(aX s.2.st r).2=0
 case neg=>rw [if_pos c2] at h;exact absurd h c2
 rw [if_neg (by simp [c2])] at h ⊢
 by_cases c3:(fI r s).2=0
 case neg=>rw [if_pos c3] at h;exact absurd h c3
 rw [if_neg (by simp [c3])] at h ⊢
 by_cases c4:(fG r s).2=0
 case neg=>rw [if_pos c4] at h;exact absurd h c4
 rw [if_neg (by simp [c4])]
 exact⟨hm,rfl,rfl⟩
theorem rW.app {s:SD} {Fr:List cz} {k n:Nat} (h:rW s Fr k (n+1)) {r:Rec} (wr:nS r) (hm:bR r=true) :
  (fG r s).2=0∧Rm (fG r s).1.1 (600 * n) (2 * n)∧(fG r s).1.2.m.aa.length≤s.2.l.m.aa.length+1∧(fG r s).1.2.m.next≤s.2.l.m.next+1:=by
 have hv:=h.inv.ak
 have hb:(fI r s).1.body.length≤200:=by
  show (dI r s.2.l.m.ak).1.body.length≤200
  unfold dI
  rw [if_neg (by simp [hv]),if_neg (by simp [hm])]
  exact lC _ hm
 have hok:=(Ai (r:=r) (v:=s.2.l.m.ak) (qU wr hv hm).1).1
 have hk:(fI r s).1.kind < 256:=hok.kind
 have iK:s.2.l.m.ak≤255:=by have:=h.inv.ak;unfold di at this;simp at this;omega
 have hp:gu (fI r s).1.kind s.2.l.m.ak (fI r s).1.body.length=0:=by
  unfold gu
  rw [if_neg (by omega),if_neg (by omega)]
 exact Dn (h.inv.EK h.loose) h.loose _ _ (B:=600 * n) (n:=2 * n) (h.rm.le (by omega) (by omega)) (by have:=h.aa;omega) (by have:=h.next;omega) hp
theorem Kg {r:Rec} {s:SD} (hv:di (s.2.l.m.ak:Int)=true) (ha:bR r=true→(fG r s).2=0∧(fG r s).1.2.m.ak=s.2.l.m.ak) (h:(bW r s).2≠0):(bW r s).1=s:=by
 unfold bW at h ⊢
 by_cases c1:bR r=false∨r.kind=6
 ·rw [if_pos c1]
 rw [if_neg c1] at h ⊢
 have hm:bR r=true:=by cases e:bR r <;> simp_all
 by_cases c2:(aX s.2.st r).2=0
 case neg=>rw [if_pos c2]
 rw [if_neg (by simp [c2])] at h ⊢
 by_cases c3:(fI r s).2=0
 case neg=>rw [if_pos c3]
 rw [if_neg (by simp [c3])] at h ⊢
 rw [if_neg (by simp [(ha hm).1])] at h ⊢
 rw [(ha hm).2] at h
 exact absurd (Hf hv c2) h
theorem rW.write {s:SD} {Fr:List cz} {k n:Nat} (h:rW s Fr k (n+1)) {r:Rec} (wr:nS r) :
  (bW r s).1.2.l.size=s.2.l.size∧(bW r s).1.2.l.m.ak=s.2.l.m.ak∧(bW r s).1.2.sure=s.2.sure ∧
  (((bW r s).2=0∧∃ f,rW (bW r s).1 (Fr++[f]) k n)∨((bW r s).2≠0∧(bW r s).1=s)):=by
 obtain⟨a1,a2,a3,a4⟩:=h.inv.write wr
 refine⟨a1,a2,a3,?_⟩
 rcases a4 with ⟨e,f,g1,g2⟩|⟨e,_,_⟩
 ·obtain⟨e1,e2,e3⟩:=Dt e
  obtain⟨b1,b2,b3,b4⟩:=h.app wr e1
  refine Or.inl ⟨e,f,g1,g2,by rw [e2];exact b2,?_,?_⟩
  ·rw [e3];have:=h.aa;omega
  ·rw [e3];have:=h.next;omega
 ·refine Or.inr ⟨e,Kg h.inv.ak (fun hm=>⟨(h.app wr hm).1,?_⟩) e⟩
  exact (vC h.inv.log ((fI r s).1.kind:Int) (fI r s).1.body).2.1
theorem rW.less {s:SD} {Fr:List cz} {k n n':Nat} (h:rW s Fr k n) (hn:n'≤n):rW s Fr k n':=
 ⟨h.inv,h.loose,h.rm.le (by omega) (by omega),by have:=h.aa;omega,by have:=h.next;omega⟩
theorem Us {l:bI} {d:ae} (hl:l.loose=false) (h:eZ d l.m [] 0):gH (d,⟨l,aH,aH⟩) [] 0 [] 0:=⟨Or.inl ⟨hl,h⟩,rfl,gm.zero,gm.zero,fun e=>by rw [show _=l.loose from rfl,hl] at e;cases e⟩
theorem rW.start {v:Int} (hv:1≤v∧v≤3) (size:Int) (q:Int) (n:Nat) (hq:600 * (n:Int)+278≤q∧q≤1048576) (hn:n≤62) :
  ∃ s:SD,createS v size (iU q)=(s.1,some s.2,0)∧rW s [] 0 n∧s.2.st=aH∧s.2.sure=aH∧(s.2.l.m.ak:Int)=v∧s.2.l.size=sized size:=by
 have hq':(iU q).dZ=q.toNat:=by
  show (max 0 (min q 67108864)).toNat=q.toNat
  omega
 obtain⟨d',h1,h2,h3⟩:=Dp (d:=iU q) (B:=600 * n) (n:=2 * n) (wE q) ⟨rfl,by rw [hq'];show 0+_≤_;omega,by show 0+_≤200;omega,by rw [hq'];omega⟩ rfl (v:=v.toNat) (by omega) size
 have TN:(v.toNat:Int)=v:=by omega
 rw [TN] at h1
 refine⟨(d',⟨⟨sized size,firstM v.toNat,false⟩,aH,aH⟩),?_,⟨Us rfl h2,rfl,h3,?_,?_⟩,rfl,rfl,TN,rfl⟩
 ·unfold createS;rw [h1]
 ·show 1+n≤64;omega
 ·show 2+n≤1000000;omega
def wM (x m:Int):Bool:=decide (0≤x∧x≤m)
theorem Be (x m:Int) (w:World):Calls Tryz.prog 128 #[.int .i64 x,.int .i64 m] w fun e w'=>e=.returned (.bool (wM x m))∧w'=w:=by
 by_cases h0:0≤x
 ·by_cases h1:x≤m
  ·have e:wM x m=true:=decide_eq_true ⟨h0,h1⟩
   rw [e];clear e
   go_enter Tryz.func128,Tryz.ntmps128
   go_wp2_with fail
   go_ret
   exact⟨rfl,rfl⟩
  ·have e:wM x m=false:=decide_eq_false (fun h=>h1 h.2)
   have q:decide (x≤m)=false:=decide_eq_false h1
   rw [e];clear e h1
   go_enter Tryz.func128,Tryz.ntmps128
   go_wp2_with fail
   go_ret
   exact⟨rfl,rfl⟩
 ·have e:wM x m=false:=decide_eq_false (fun h=>h0 h.1)
  have q:decide (0≤x)=false:=decide_eq_false h0
  rw [e];clear e h0
  go_enter Tryz.func128,Tryz.ntmps128
  go_wp2_with fail
  go_ret
  exact⟨rfl,rfl⟩
theorem MB (x:Int) (w:World):Calls Tryz.prog 129 #[.int .i64 x] w fun e w'=>e=.returned (.bool (wM x 1099511627776))∧w'=w:=by
 by_cases h0:0≤x
 ·by_cases h1:x≤1099511627776
  ·have e:wM x 1099511627776=true:=decide_eq_true ⟨h0,h1⟩
   rw [e];clear e
   go_enter Tryz.func129,Tryz.ntmps129
   go_wp2_with fail
   go_ret
   exact⟨rfl,rfl⟩
  ·have e:wM x 1099511627776=false:=decide_eq_false (fun h=>h1 h.2)
   have q:decide (x≤1099511627776)=false:=decide_eq_false h1
   rw [e];clear e h1
   go_enter Tryz.func129,Tryz.ntmps129
   go_wp2_with fail
   go_ret
   exact⟨rfl,rfl⟩
 ·have e:wM x 1099511627776=false:=decide_eq_false (fun h=>h0 h.1)
  have q:decide (0≤x)=false:=decide_eq_false h0
  rw [e];clear e h0
  go_enter Tryz.func129,Tryz.ntmps129
  go_wp2_with fail
  go_ret
  exact⟨rfl,rfl⟩
theorem vG (x:Int) (w:World):Calls Tryz.prog 97 #[.int .i64 x] w fun e w'=>e=.returned (.bool (di x))∧w'=w:=by
 by_cases h0:1≤x
 ·by_cases h1:x≤3
  ·have e:di x=true:=decide_eq_true ⟨h0,h1⟩
   rw [e];clear e
   go_enter Tryz.func97,Tryz.ntmps97
   go_wp2_with fail
   go_ret
   exact⟨rfl,rfl⟩
  ·have e:di x=false:=decide_eq_false (fun h=>h1 h.2)
   have q:decide (x≤3)=false:=decide_eq_false h1
   rw [e];clear e h1
   go_enter Tryz.func97,Tryz.ntmps97
   go_wp2_with fail
   go_ret
   exact⟨rfl,rfl⟩
 ·have e:di x=false:=decide_eq_false (fun h=>h0 h.1)
  have q:decide (1≤x)=false:=decide_eq_false h0
  rw [e];clear e h0
  go_enter Tryz.func97,Tryz.ntmps97
  go_wp2_with fail
  go_ret
  exact⟨rfl,rfl⟩
theorem QM (b:Bk):gy b=(wM b.id 65535 && decide (1≤b.weight∧b.weight≤10)):=rfl
section
variable {F0:List Nat} {w0 w:World} {R:List ax}
theorem XB (b:Bk) (h:In F0 w0 w R):Calls Tryz.prog 132 #[.agg (lD b).toArray] w fun e w'=>e=.returned (.bool (gy b))∧In F0 w0 w' R:=by
 have G:=Lib.hid ((h.cells (lD b).toArray 103).drop)
 have K:=Lib.hid (Be b.id 65535)
 rw [QM]
 obtain⟨id,addr,wt⟩:=b
 simp only at K ⊢
 clear h
 cases hi:wM id 65535 with
 | false=>
  rw [hi] at K;clear hi
  go_enter Tryz.func132,Tryz.ntmps132
  go_wp2_with fail
  refine (K.out _).mono ?_
  rintro e w1 ⟨rfl,rfl⟩
  clear K
  go_wp2_with fail
  go_ret
  exact⟨rfl,G.out⟩
 | true=>
  rw [hi] at K;clear hi
  by_cases h1:1≤wt
  ·by_cases h2:wt≤10
   ·have e:(true && decide (1≤wt∧wt≤10))=true:=by simp [h1,h2]
    rw [e];clear e
    go_enter Tryz.func132,Tryz.ntmps132
    go_wp2_with fail
    refine (K.out _).mono ?_
    rintro e w1 ⟨rfl,rfl⟩
    clear K
    go_wp2_with fail
    go_ret
    exact⟨rfl,G.out⟩
   ·have e:(true && decide (1≤wt∧wt≤10))=false:=by simp [h1,h2]
    have q:decide (wt≤10)=false:=decide_eq_false h2
    rw [e];clear e h2
    go_enter Tryz.func132,Tryz.ntmps132
    go_wp2_with fail
    refine (K.out _).mono ?_
    rintro e w1 ⟨rfl,rfl⟩
    clear K
    go_wp2_with fail
    go_ret
    exact⟨rfl,G.out⟩
  ·have e:(true && decide (1≤wt∧wt≤10))=false:=by simp [h1]
   have q:decide (1≤wt)=false:=decide_eq_false h1
   rw [e];clear e h1
   go_enter Tryz.func132,Tryz.ntmps132
   go_wp2_with fail
   refine (K.out _).mono ?_
   rintro e w1 ⟨rfl,rfl⟩
   clear K
   go_wp2_with fail
   go_ret
   exact⟨rfl,G.out⟩
theorem QN (b:Bk) (h:In F0 w0 w R):Calls Tryz.prog 131 #[.agg (lD b).toArray] w fun e w'=>e=.returned (.bool (!gy b))∧In F0 w0 w' R:=by
 have K:=Lib.hid (XB b ((h.cells (lD b).toArray 103).drop))
 obtain⟨id,addr,wt⟩:=b
 clear h
 go_enter Tryz.func131,Tryz.ntmps131
 go_wp2_with fail
 refine K.out.mono ?_
 rintro e w1 ⟨rfl,g⟩
 have G:=Lib.hid g
 clear g K
 go_wp2_with fail
 go_ret
 exact⟨rfl,G.out⟩
theorem Src.plain {w:World} {A:Option Addr} {m k:Nat} {news:List Value} (h:Src w A m k news) (h0:0 < m) (hk:0 < k):∃ g o,A=some ⟨g,o,none⟩∧∀ j u,news[j]?=some u→w.cell? ⟨g,o+j,none⟩=some u:=by
 obtain⟨ad,e,hc⟩:=h.at' h0
 have hl:0 < news.length:=by rw [h.len];exact Nat.mul_pos h0 hk
 have c0:=hc 0 _ (List.getElem?_eq_getElem hl)
 have e2:=CJ c0
 refine⟨ad.block,ad.off,by rw [e];exact congrArg some e2,fun j u hu=>?_⟩
 have:=hc j u hu
 rw [e2,add_plain] at this
 exact this
def gZ (F0:List Nat) (w0:World) (R:List ax) (A:Option Addr) (l:List Bk):Prop:=∀ w',In F0 w0 w' R→Src w' A l.length 3 (pQ l)
theorem gZ.cell {A:Option Addr} {l:List Bk} (hs:gZ F0 w0 R A l) (h:In F0 w0 w R) {k:Nat} {b:Bk} (hb:l[k]?=some b):∃ g o,A=some ⟨g,o,none⟩∧w.cell? ⟨g,o+k * 3,none⟩=some (.int .i64 b.id)∧w.cell? ⟨g,o+k * 3+1,none⟩=some (.int .u32 b.addr)∧w.cell? ⟨g,o+k * 3+2,none⟩=some (.int .i64 b.weight):=by
 have hk:=(List.getElem?_eq_some_iff.1 hb).1
 obtain⟨g,o,e,hc⟩:=(hs w h).plain (by omega) (by decide)
 obtain⟨b0,b1,b2⟩:=JN hb
 exact⟨g,o,e,hc _ _ b0,hc _ _ b1,hc _ _ b2⟩
def Kh (l:List Bk) (F0:List Nat) (w0:World) (R:List ax) (i:Value) (wr:World):Prop:=∃ k:Nat,k≤l.length∧i=.int .i64 k∧(∀ b∈l.take k,gy b=true)∧In F0 w0 wr R
def EL (l:List Bk) (F0:List Nat) (w0:World) (R:List ax) (e:Ending) (w':World):Prop:=∃ z:Int,e=.returned (.int .i64 z)∧decide (0≤z)=l.any (fun b=>!gy b)∧In F0 w0 w' R
theorem QO {l:List Bk} {k:Nat} {b:Bk} (hb:l[k]?=some b) (ha:∀ b∈l.take k,gy b=true) (h:gy b=true) (hi:In F0 w0 w R):Kh l F0 w0 R (.int .i64 ((k:Int)+1)) w:=by
 refine⟨k+1,(List.getElem?_eq_some_iff.1 hb).1,by rw [Int.natCast_add];rfl,fun x hx=>?_,hi⟩
 rw [List.take_add_one,hb] at hx
 rcases List.mem_append.1 hx with hx | hx
 ·exact ha x hx
 ·simp at hx;subst hx;exact h
theorem Ut {l:List Bk} {A:Option Addr} {c:Nat} (hs:gZ F0 w0 R A l) (hl:l.length≤1000000000) (h:In F0 w0 w R):Calls Tryz.prog 202 #[.slice A l.length c,.func (.func 131) #[] #[]] w (EL l F0 w0 R):=by
 have HR:Hid (Kh l F0 w0 R (.int .i64 0) w):=Lib.hid ⟨0,Nat.zero_le _,rfl,by simp,h⟩
 have HS:=Lib.hid hs
 have hln:l.length≤1000000000:=hl
 clear h hs hl
 go_enter Tryz.func202,Tryz.ntmps202
 go_wp2_with fail
 go_loopw [8] (Kh l F0 w0 R) (fun k _=>l.length - (intOf k).toNat)
 case atStart=>exact HR.out
 case round=>
  obtain⟨k,hk,rfl,hall,dh⟩:=hrel
  clear HR
  by_cases hlt:k < l.length
  ·obtain⟨b,hb⟩:∃ b,l[k]?=some b:=⟨l[k],List.getElem?_eq_getElem hlt⟩
   obtain⟨g,o,rfl,c0,c1,c2⟩:=HS.out.cell dh hb
   have hlt':(k:Int) < (l.length:Int):=Int.ofNat_lt.2 hlt
   have hw2:wrap64 ((k:Int)+1)=(k:Int)+1:=by unfold wrap64;omega
   have K:=Lib.hid (QN b dh)
   have HN:=Lib.hid (fun (h1:gy b=true) w' (h':In F0 w0 w' R)=>QO (w:=w') hb hall h1 h')
   have HX:=Lib.hid (fun (h1:gy b=false) w' (h':In F0 w0 w' R)=>(show EL l F0 w0 R (.returned (.int .i64 k)) w' from ⟨k,rfl,by
    have:l.any (fun b=>!gy b)=true:=List.any_eq_true.2 ⟨b,List.mem_of_getElem? hb,by simp [h1]⟩
    rw [this];simp,h'⟩))
   clear dh hall hb hlt hk
   cases hm:gy b with
   | true=>
    rw [hm] at K
    have Uu:=Lib.hid (HN.out hm)
    clear HN HX hm
    go_wp2_with fail
    refine K.out.mono ?_
    rintro e w1 ⟨rfl,g1⟩
    have vH:=Lib.hid (Uu.out w1 g1)
    clear g1 K Uu
    go_wp2_with fail
    go_roundw
    case rel=>(try rw [hw2]);exact vH.out
    case measure=>(try rw [hw2]);exact dS hlt'
   | false=>
    rw [hm] at K
    have HX1:=Lib.hid (HX.out hm)
    clear HN HX hm
    go_wp2_with fail
    refine K.out.mono ?_
    rintro e w1 ⟨rfl,g1⟩
    have vH:=Lib.hid (HX1.out w1 g1)
    clear g1 K HX1
    go_wp2_with fail
    go_ret
    exact vH.out
  ·have hge:(l.length:Int)≤(k:Int):=Int.ofNat_le.2 (Nat.le_of_not_lt hlt)
   have hkl:l.take k=l:=List.take_of_length_le (Nat.le_of_not_lt hlt)
   rw [hkl] at hall
   have G:Hid (EL l F0 w0 R (.returned (.int .i64 (-1))) wr):=Lib.hid ⟨-1,rfl,by
    have:l.any (fun b=>!gy b)=false:=List.any_eq_false.2 (fun b hb=>by simp [hall b hb])
    rw [this];rfl,dh⟩
   clear dh hkl hlt hk hall
   go_wp2_with fail
   go_ret
   exact G.out
theorem QP {l:List Bk} {A:Option Addr} {c:Nat} (hs:gZ F0 w0 R A l) (hl:l.length≤1000000000) (h:In F0 w0 w R):Calls Tryz.prog 130 #[.slice A l.length c,.func (.func 131) #[] #[]] w fun e w'=>e=.returned (.bool (l.any (fun b=>!gy b)))∧In F0 w0 w' R:=by
 have K:=Lib.hid (Ut (c:=c) hs hl h)
 clear h hs hl
 go_enter Tryz.func130,Tryz.ntmps130
 go_wp2_with fail
 refine K.out.mono ?_
 rintro e w1 ⟨z,rfl,hz,g⟩
 have HZ:=Lib.hid hz
 have G:=Lib.hid g
 clear g K hz
 go_wp2_with fail
 go_ret
 exact⟨by rw [← HZ.out];rfl,G.out⟩
end
theorem Ki (t:rX) (w:World):Calls Tryz.prog 127 #[.agg (dE t)] w fun e w'=>e=.returned (.bool (decide (rZ t)))∧w'=w.alloc (.cells (dE t) 47):=by
 by_cases h:rZ t
 ·rw [decide_eq_true h];exact Nr h w
 ·rw [decide_eq_false h];exact JG h w
theorem XC (f:Fl):decide (si f)=(decide (rZ f.t) && (wM f.bk 65535 && (wM f.gen 1000000 && wM f.seen 1099511627776))):=by
 unfold wM
 rw [Bool.eq_iff_iff]
 simp only [decide_eq_true_eq,Bool.and_eq_true,GM]
 constructor
 ·rintro ⟨a,b,c,d,e,f,g⟩;exact⟨a,⟨b,c⟩,⟨d,e⟩,f,g⟩
 ·rintro ⟨a,⟨b,c⟩,⟨d,e⟩,f,g⟩;exact⟨a,b,c,d,e,f,g⟩
theorem Uv (l:List Bk):(!l.any (fun b=>!gy b))=l.all gy:=by
 induction l with
 | nil=>rfl
 | cons b l ih=>simp only [List.any_cons,List.all_cons,Bool.not_or,Bool.not_not,ih]
section
variable {F0:List Nat} {w0 w:World} {R:List ax}
abbrev tq (r:Rec) (A:Option Addr) (c:Nat):Value:=.agg (aC r (.slice A r.au.length c)).toArray
theorem jE {r:Rec} {A:Option Addr} {c:Nat} (hs:gZ F0 w0 R A r.au) (hl:r.au.length≤1000000000) (h:In F0 w0 w R):Calls Tryz.prog 63 #[tq r A c] w fun e w'=>e=.returned (.bool (bR r))∧In F0 w0 w' R:=by
 have H:=Lib.hid h
 have HS:=Lib.hid hs
 have HL:=Lib.hid hl
 clear h hs hl
 obtain⟨kind,fl,gen,au,bk,till,count⟩:=r
 by_cases k1:kind=1
 ·subst k1
  have e:bR ⟨1,fl,gen,au,bk,till,count⟩=decide (si fl):=rfl
  rw [e,XC];clear e
  have KT:=Lib.hid (Ki fl.t)
  obtain⟨⟨src,dst,proto,ag,ah⟩,bN,aJ,aA⟩:=fl
  simp only at KT ⊢
  have K1:=Lib.hid (Be bN 65535)
  have K2:=Lib.hid (Be aJ 1000000)
  have K3:=Lib.hid (MB aA)
  generalize decide (rZ ⟨src,dst,proto,ag,ah⟩)=mt at *
  generalize wM bN 65535=b1 at *
  generalize wM aJ 1000000=b2 at *
  generalize wM aA 1099511627776=b3 at *
  cases mt with
  | false=>
   go_enter Tryz.func63,Tryz.ntmps63
   go_wp2_with fail
   refine (KT.out _).mono ?_
   rintro e w1 ⟨rfl,rfl⟩
   clear KT
   go_wp2_with fail
   go_ret
   exact⟨rfl,((H.out.alloc _).alloc _).alloc _⟩
  | true=>
   cases b1 with
   | false=>
    go_enter Tryz.func63,Tryz.ntmps63
    go_wp2_with fail
    refine (KT.out _).mono ?_
    rintro e w1 ⟨rfl,rfl⟩
    clear KT
    go_wp2_with fail
    refine (K1.out _).mono ?_
    rintro e w1 ⟨rfl,rfl⟩
    clear K1
    go_wp2_with fail
    go_ret
    exact⟨rfl,((H.out.alloc _).alloc _).alloc _⟩
   | true=>
    cases b2 with
    | false=>
     go_enter Tryz.func63,Tryz.ntmps63
     go_wp2_with fail
     refine (KT.out _).mono ?_
     rintro e w1 ⟨rfl,rfl⟩
     clear KT
     go_wp2_with fail
     refine (K1.out _).mono ?_
     rintro e w1 ⟨rfl,rfl⟩
     clear K1
     go_wp2_with fail
     refine (K2.out _).mono ?_
     rintro e w1 ⟨rfl,rfl⟩
     clear K2
     go_wp2_with fail
     go_ret
     exact⟨rfl,((H.out.alloc _).alloc _).alloc _⟩
    | true=>
     go_enter Tryz.func63,Tryz.ntmps63
     go_wp2_with fail
     refine (KT.out _).mono ?_
     rintro e w1 ⟨rfl,rfl⟩
     clear KT
     go_wp2_with fail
     refine (K1.out _).mono ?_
     rintro e w1 ⟨rfl,rfl⟩
     clear K1
     go_wp2_with fail
     refine (K2.out _).mono ?_
     rintro e w1 ⟨rfl,rfl⟩
     clear K2
     go_wp2_with fail
     refine (K3.out _).mono ?_
     rintro e w1 ⟨rfl,rfl⟩
     clear K3
     go_wp2_with fail
     go_ret
     exact⟨by simp,((H.out.alloc _).alloc _).alloc _⟩
 by_cases k2:kind=2
 ·subst k2
  have e:bR ⟨2,fl,gen,au,bk,till,count⟩=decide (rZ fl.t):=rfl
  rw [e];clear e k1
  have KT:=Lib.hid (Ki fl.t)
  obtain⟨⟨src,dst,proto,ag,ah⟩,bN,aJ,aA⟩:=fl
  simp only at KT ⊢
  go_enter Tryz.func63,Tryz.ntmps63
  go_wp2_with fail
  refine (KT.out _).mono ?_
  rintro e w1 ⟨rfl,rfl⟩
  clear KT
  go_wp2_with fail
  go_ret
  exact⟨rfl,(H.out.alloc _).alloc _⟩
 by_cases k3:kind=3
 ·subst k3
  have e:bR ⟨3,fl,gen,au,bk,till,count⟩=(wM gen 1000000 && (decide (au.length≤16) && au.all gy)):=rfl
  rw [e,← Uv];clear e k1 k2
  have K1:=Lib.hid (Be gen 1000000)
  have HG:Hid (∀ o,In F0 w0 (w.alloc o) R):=Lib.hid fun o=>H.out.alloc o
  have K2:Hid (∀ o,Calls Tryz.prog 130 #[.slice A au.length c,.func (.func 131) #[] #[]] (w.alloc o) fun e w'=>e=.returned (.bool (au.any (fun b=>!gy b)))∧In F0 w0 w' R):=Lib.hid fun o=>QP HS.out HL.out (HG.out o)
  generalize wM gen 1000000=b1 at *
  generalize au.any (fun b=>!gy b)=b2 at *
  cases b1 with
  | false=>
   go_enter Tryz.func63,Tryz.ntmps63
   go_wp2_with fail
   refine (K1.out _).mono ?_
   rintro e w1 ⟨rfl,rfl⟩
   clear K1
   go_wp2_with fail
   go_ret
   exact⟨rfl,H.out.alloc _⟩
  | true=>
   by_cases h16:au.length≤16
   ·have q:((au.length:Nat):Int)≤16:=by omega
    have e:(true && (decide (au.length≤16) && !b2))=!b2:=by simp [h16]
    rw [e];clear e h16
    go_enter Tryz.func63,Tryz.ntmps63
    go_wp2_with fail
    refine (K1.out _).mono ?_
    rintro e w1 ⟨rfl,rfl⟩
    clear K1
    go_wp2_with fail
    refine (K2.out _).mono ?_
    rintro e w1 ⟨rfl,g⟩
    have G:=Lib.hid g
    clear g K2
    go_wp2_with fail
    go_ret
    exact⟨by simp,G.out⟩
   ·have q:decide (((au.length:Nat):Int)≤16)=false:=decide_eq_false (by omega)
    have q2:decide (au.length≤16)=false:=decide_eq_false h16
    have e:(true && (decide (au.length≤16) && !b2))=false:=by simp [h16]
    rw [e];clear e h16
    go_enter Tryz.func63,Tryz.ntmps63
    go_wp2_with fail
    refine (K1.out _).mono ?_
    rintro e w1 ⟨rfl,rfl⟩
    clear K1
    go_wp2_with fail
    go_ret
    exact⟨rfl,H.out.alloc _⟩
 by_cases k4:kind=4
 ·subst k4
  have e:bR ⟨4,fl,gen,au,bk,till,count⟩=(wM bk 65535 && wM till 1099511627776):=rfl
  rw [e];clear e k1 k2 k3
  have K1:=Lib.hid (Be bk 65535)
  have K2:=Lib.hid (MB till)
  generalize wM bk 65535=b1 at *
  generalize wM till 1099511627776=b2 at *
  cases b1 with
  | false=>
   go_enter Tryz.func63,Tryz.ntmps63
   go_wp2_with fail
   refine (K1.out _).mono ?_
   rintro e w1 ⟨rfl,rfl⟩
   clear K1
   go_wp2_with fail
   go_ret
   exact⟨rfl,H.out.alloc _⟩
  | true=>
   go_enter Tryz.func63,Tryz.ntmps63
   go_wp2_with fail
   refine (K1.out _).mono ?_
   rintro e w1 ⟨rfl,rfl⟩
   clear K1
   go_wp2_with fail
   refine (K2.out _).mono ?_
   rintro e w1 ⟨rfl,rfl⟩
   clear K2
   go_wp2_with fail
   go_ret
   exact⟨by simp,H.out.alloc _⟩
 by_cases k5:kind=5
 ·subst k5
  have e:bR ⟨5,fl,gen,au,bk,till,count⟩=wM bk 65535:=rfl
  rw [e];clear e k1 k2 k3 k4
  have K1:=Lib.hid (Be bk 65535)
  go_enter Tryz.func63,Tryz.ntmps63
  go_wp2_with fail
  refine (K1.out _).mono ?_
  rintro e w1 ⟨rfl,rfl⟩
  clear K1
  go_wp2_with fail
  go_ret
  exact⟨rfl,H.out.alloc _⟩
 by_cases k6:kind=6
 ·subst k6
  have e:bR ⟨6,fl,gen,au,bk,till,count⟩=wM count 1000000:=rfl
  rw [e];clear e k1 k2 k3 k4 k5
  have K1:=Lib.hid (Be count 1000000)
  go_enter Tryz.func63,Tryz.ntmps63
  go_wp2_with fail
  refine (K1.out _).mono ?_
  rintro e w1 ⟨rfl,rfl⟩
  clear K1
  go_wp2_with fail
  go_ret
  exact⟨rfl,H.out.alloc _⟩
 ·have e:bR ⟨kind,fl,gen,au,bk,till,count⟩=false:=by unfold bR;simp only;rw [if_neg k1,if_neg k2,if_neg k3,if_neg k4,if_neg k5,if_neg k6]
  rw [e];clear e
  have q1:(kind == 1)=false:=beq_eq_false_iff_ne.2 k1
  have q2:(kind == 2)=false:=beq_eq_false_iff_ne.2 k2
  have q3:(kind == 3)=false:=beq_eq_false_iff_ne.2 k3
  have q4:(kind == 4)=false:=beq_eq_false_iff_ne.2 k4
  have q5:(kind == 5)=false:=beq_eq_false_iff_ne.2 k5
  have q6:(kind == 6)=false:=beq_eq_false_iff_ne.2 k6
  clear k1 k2 k3 k4 k5 k6
  go_enter Tryz.func63,Tryz.ntmps63
  go_wp2_with fail
  go_ret
  exact⟨rfl,H.out.alloc _⟩
end
end Go.Proofs.YtanhdliaaccacaaGreat
