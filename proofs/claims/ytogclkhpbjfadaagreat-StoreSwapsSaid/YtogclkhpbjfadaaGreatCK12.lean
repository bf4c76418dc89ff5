/- Parts of the proofs that a compaction keeps what lives, and done again is as once. -/
import Derived.Test.YtogclkhpbjfadaaGreatCK6
import Derived.Test.YtogclkhpbjfadaaGreatCK11
import Derived.Test.YtogclkhpbjfadaaGreatCK5
namespace Go.Proofs.YtogclkhpbjfadaaGreat
open Go.RowKit
set_option linter.unusedVariables false
set_option maxHeartbeats 64000000
set_option maxRecDepth 100000
structure pK where
 l:bK
 st:fP
 sure:fP
abbrev SD:=ae×pK
def kY (d:ae):Int×Int:=
 match gY d bL with
 | none=>(0,6)
 | some b=>(((bD b).1.aj:Int),(bD b).2)
def createS (v size:Int) (d:ae):ae×Option pK×Int:=
 match (cu v size d).2.1 with
 | none=>((cu v size d).1,none,(cu v size d).2.2)
 | some l=>((cu v size d).1,some ⟨l,aJ,aJ⟩,0)
/-! ### Names of segments,read -/
def qp (x:UInt8):Bool:=decide (48≤x.toNat∧x.toNat≤57)
def lQ (l:List UInt8):Nat:=l.foldl (fun n x=>n * 10+(x.toNat - 48)) 0
def sQ (n:ByteArray):Option Nat:=
 match n.data.toList with
 | h::t=>if h=115∧t.length=6∧t.all qp=true∧0 < lQ t then some (lQ t) else none
 | []=>none
theorem Dp (l:List UInt8) (x:UInt8):lQ (l++[x])=lQ l * 10+(x.toNat - 48):=by simp [lQ]
theorem xV {x:UInt8} {n k:Nat} (hx:qp x=true) (h:n / 10 ^ k % 10=x.toNat - 48):zl n k=x:=by
 simp only [qp,decide_eq_true_eq] at hx
 unfold zl
 rw [h]
 apply UInt8.toNat.inj
 rw [UInt8.toNat_ofNat']
 omega
theorem Qz {n:ByteArray} {k:Nat} (h:sQ n=some k):n=ai k∧1≤k∧k < 1000000:=by
 unfold sQ at h
 rcases e:n.data.toList with _ | ⟨x,t⟩
 ·rw [e] at h;simp at h
 ·rw [e] at h
  simp only at h
  split at h
  ·rename_i hc
   obtain⟨rfl,hl,hd,h0⟩:=hc
   injection h with h
   subst h
   match t,hl,hd,h0,e with
   | [a,b,c,d,e',f],_,hd,h0,e=>
    simp only [List.all_cons,List.all_nil,Bool.and_true,Bool.and_eq_true] at hd
    obtain⟨ha,hb,hc,hd',he,hf⟩:=hd
    have q:lQ [a,b,c,d,e',f]=(((((a.toNat - 48) * 10+(b.toNat - 48)) * 10+(c.toNat - 48)) * 10+(d.toNat - 48)) * 10+(e'.toNat - 48)) * 10+(f.toNat - 48):=by simp [lQ]
    have la:=ha;have lb:=hb;have lc:=hc;have ld:=hd';have le:=he;have lf:=hf
    simp only [qp,decide_eq_true_eq] at la lb lc ld le lf
    have hlt:lQ [a,b,c,d,e',f] < 1000000:=by omega
    refine⟨?_,h0,hlt⟩
    rw [oP ⟨h0,hlt⟩]
    have d5:=xV (n:=lQ [a,b,c,d,e',f]) (k:=5) ha (by rw [q];omega)
    have d4:=xV (n:=lQ [a,b,c,d,e',f]) (k:=4) hb (by rw [q];omega)
    have d3:=xV (n:=lQ [a,b,c,d,e',f]) (k:=3) hc (by rw [q];omega)
    have d2:=xV (n:=lQ [a,b,c,d,e',f]) (k:=2) hd' (by rw [q];omega)
    have d1:=xV (n:=lQ [a,b,c,d,e',f]) (k:=1) he (by rw [q];omega)
    have d0:=xV (n:=lQ [a,b,c,d,e',f]) (k:=0) hf (by rw [q];omega)
    rw [d5,d4,d3,d2,d1,d0]
    cases n with
    | mk data=>simp only at e;rw [← e]
  ·cases h
/-! ### What is no part of the log goes -/
def dirtyD (l:bK) (n:ByteArray):Bool:=decide (n=aB) || (match sQ n with | some k=>!l.m.aa.contains k | none=>false)
def iA (l:bK):List ByteArray→ae→ae
 | [],d=>d
 | n::r,d=>iA l r (if dirtyD l n=true then (cZ d n).1 else d)
theorem yQ (l:bK):∀ (L:List ByteArray) (n:ByteArray) (d:ae),iA l (L++[n]) d=if dirtyD l n=true then (cZ (iA l L d) n).1 else iA l L d
 | [],n,d=>rfl
 | x::r,n,d=>yQ l r n _
theorem Nz {l:bK} {n:ByteArray} (hm:∀ s∈l.m.aa,1≤s∧s < 1000000) (h:dirtyD l n=true):¬ Mine l.m.aa n:=by
 unfold dirtyD at h
 simp only [Bool.or_eq_true,decide_eq_true_eq] at h
 rcases h with h | h
 ·rw [h];exact vg
 ·cases e:sQ n with
  | none=>rw [e] at h;cases h
  | some k=>
   rw [e] at h
   simp only [Bool.not_eq_true',List.contains_eq_mem,decide_eq_false_iff_not] at h
   obtain⟨rfl,hk⟩:=Qz e
   exact mW hm h
theorem Bb {l:bK} {Fr:List cB} {s:Nat}:∀ (L:List ByteArray) (d:ae),fD d l.m Fr s→fD (iA l L d) l.m Fr s
 | [],_,h=>h
 | n::r,d,h=>by
  refine Bb r _ ?_
  split
  ·rename_i hd
   exact h.other (fun _ h=>h) (dJ.remove h.ok (Nz h.valid hd)) (nS h.ok n)
  ·exact h
theorem Dq (l:bK):∀ (L:List ByteArray) (d:ae),(iA l L d).ops≤d.ops+L.length
 | [],d=>Nat.le_refl _
 | n::r,d=>by
  have h1:=Dq l r (if dirtyD l n=true then (cZ d n).1 else d)
  have h2:(if dirtyD l n=true then (cZ d n).1 else d).ops≤d.ops+1:=by
   split
   ·have:=(Ex d n n [] 0).2.2.2.2.1;omega
   ·omega
  show (iA l r _).ops≤d.ops+(r.length+1)
  omega
/-! ### The store's calls -/
def nW (aj size:Int) (d:ae):ae×Option pK×Int:=
 if (kY d).2≠0 then (d,none,(kY d).2)
 else if aj < (kY d).1∨3 < aj then (d,none,10)
 else match (dB eO size d aJ).2.2.1 with
  | none=>((dB eO size d aJ).2.1,none,(dB eO size d aJ).2.2.2)
  | some l=>(iA l (iR (dB eO size d aJ).2.1) (dB eO size d aJ).2.1,some ⟨l,(dB eO size d aJ).1,(dB eO size d aJ).1⟩,0)
def fu (r:Rec) (s:SD):cB×Int:=dh r s.2.l.m.aj
def eT (r:Rec) (s:SD):DL×Int:=bW (fu r s).1.kind (fu r s).1.body (s.1,s.2.l)
def bG (r:Rec) (s:SD):SD×Int:=
 if bT r=false∨r.kind=6 then (s,1)
 else if (aX s.2.st r).2≠0 then (s,(aX s.2.st r).2)
 else if (fu r s).2≠0 then (s,(fu r s).2)
 else if (eT r s).2≠0 then (((eT r s).1.1,⟨(eT r s).1.2,s.2.st,s.2.sure⟩),(eT r s).2)
 else (((eT r s).1.1,⟨(eT r s).1.2,(aX s.2.st (dM r (eT r s).1.2.m.aj)).1,s.2.sure⟩),(aX s.2.st (dM r (eT r s).1.2.m.aj)).2)
def iN (s:SD):SD×Int:=
 (((fw (s.1,s.2.l)).1.1,⟨(fw (s.1,s.2.l)).1.2,s.2.st,if (fw (s.1,s.2.l)).2=0 then s.2.st else s.2.sure⟩),(fw (s.1,s.2.l)).2)
def cK (aj:Int) (st:fP):List cB:=(aM st).map (fun r=>(dh r aj).1)
def gV (aj:Int) (st:fP) (s:SD):DL×Int:=gM aj.toNat ((cK aj st).map ak) (s.1,s.2.l)
def dx (aj:Int) (st:fP) (s:SD):SD×Int:=
 if aj < s.2.l.m.aj∨3 < aj then (s,10)
 else (((gV aj st s).1.1,⟨(gV aj st s).1.2,if s.2.l.m.aa=(gV aj st s).1.2.m.aa then s.2.st else eP aj st,if (gV aj st s).2=0 then eP aj st else s.2.sure⟩),(gV aj st s).2)
/-! ### Laws of the parts -/
theorem mQ.dM {r:Rec} (h:mQ r) (v:Int):mQ (dM r v):=by
 have hz:Gy eH:=by constructor <;> decide
 have ht:Gy (aO r).fl.t:=by
  unfold aO
  split
  ·exact h.t
  ·split
   ·exact h.t
   ·repeat' split
    all_goals exact hz
 have ha:∀ b∈(aO r).ax,0≤b.addr∧b.addr < 4294967296:=by
  unfold aO
  repeat' split
  all_goals first | exact h.addr | (intro b hb;simp at hb)
 unfold Go.Proofs.YtogclkhpbjfadaaGreat.dM
 split
 ·exact⟨hz,by simp [aT]⟩
 ·refine⟨?_,?_⟩
  ·simp only
   split
   ·exact ht
   ·exact ht
  ·intro b hb
   simp only [List.mem_map] at hb
   obtain⟨x,hx,rfl⟩:=hb
   rw [(Er v x).2];exact ha x hx
theorem rC {d:ae} {l:bK} (h:(aY (d,l)).1.2.loose=true):l.loose=true:=by
 unfold aY at h
 simp only at h
 split at h
 ·assumption
 ·exact h
theorem Bc {d:ae} {l:bK} (h:(fw (d,l)).1.2.loose=true):l.loose=true:=by
 unfold fw bR gT at h
 split at h
 ·exact rC h
 ·exact rC h
theorem wE {d:ae} {l:bK} {Fr lq:List cB} {s s0:Nat} (h:gW d l Fr s lq s0) (kind:Int) (body:List UInt8) (hl:(bW kind body (d,l)).1.2.loose=true) (hn:l.loose=true→Fr≠[]):Fr≠[]:=by
 by_cases h0:l.loose=true
 ·exact hn h0
 have hl0:l.loose=false:=by cases e:l.loose <;> simp_all
 intro hFr
 subst hFr
 have hset:aY (d,l)=((d,l),0):=by unfold aY;simp [hl0]
 have hb:bytesD d (bA l)=0:=by
  obtain⟨C,L,k,g1,g2,g3⟩:=h.now.2.2
  have hL:L=[]:=by
   have:=congrArg List.length g2
   simp at this
   exact List.eq_nil_of_length_eq_zero (by omega)
  have hr:=g1.last.read
  rw [← jL g1.len] at hr
  unfold bytesD
  rw [hr,hL];rfl
 unfold bW at hl
 simp only at hl
 split at hl
 ·simp [hl0] at hl
 ·rw [hset,aV (r:=((d,l),(0:Int))) rfl] at hl
  simp only at hl
  rw [if_pos (by unfold lK;simp [hb])] at hl
  rw [aV (r:=((d,l),(0:Int))) rfl] at hl
  unfold gT at hl
  simp [hl0] at hl
theorem Dr {d:ae} {l:bK} {Fr lq:List cB} {s s0:Nat} (h:gW d l Fr s lq s0) (aj:Nat) (R:List cB) (hR:∀ f∈R,jI f∧f.aj=aj) :
  (gM aj (R.map ak) (d,l)).1.2.size=l.size ∧
  (((gM aj (R.map ak) (d,l)).2=0∧(gM aj (R.map ak) (d,l)).1.2.loose=false∧(gM aj (R.map ak) (d,l)).1.2.m.aj=aj∧l.m.aa≠(gM aj (R.map ak) (d,l)).1.2.m.aa∧fD (gM aj (R.map ak) (d,l)).1.1 (gM aj (R.map ak) (d,l)).1.2.m R R.length) ∨
    ((gM aj (R.map ak) (d,l)).2≠0∧(((gM aj (R.map ak) (d,l)).1.2.m=l.m∧((gM aj (R.map ak) (d,l)).1.2.loose=true→l.loose=true)∧gW (gM aj (R.map ak) (d,l)).1.1 (gM aj (R.map ak) (d,l)).1.2 Fr s lq s0) ∨
    ((gM aj (R.map ak) (d,l)).1.2.m.aj=aj∧l.m.aa≠(gM aj (R.map ak) (d,l)).1.2.m.aa∧gW (gM aj (R.map ak) (d,l)).1.1 (gM aj (R.map ak) (d,l)).1.2 R R.length Fr s)))):=by
 unfold gM
 simp only
 have h1:=vk h
 have hsl:=rC (d:=d) (l:=l)
 generalize aY (d,l)=r at *
 rcases h1 with ⟨h2,h3,h4⟩|⟨h2,h3,h4⟩
 case inr=>
  rw [if_pos h2,h3]
  exact⟨rfl,Or.inr ⟨h2,Or.inl ⟨rfl,fun e=>e,h4⟩⟩⟩
 rw [if_neg (by simp [h2])]
 obtain⟨⟨d1,l1⟩,e1⟩:=r
 simp only at h2 h3 h4 ⊢
 subst h3
 have hv:=h4.valid
 have hlt:∀ x∈l.m.aa,x < l.m.next:=fun x hx=>(dW h4.now.1 hx).2.1
 have hne0:l.m.aa≠[]:=fun e=>by have:=(bH.1 h4.now.1).1.2.2.1;rw [e] at this;simp at this
 have hn1:1≤l.m.next:=(bH.1 h4.now.1).1.2.2.2.2.1
 have h5:=Ht (l:=⟨l.size,l.m,false⟩) h4.ok h4.now.1 R hR
 simp only at h5
 generalize fH ⟨l.size,l.m,false⟩ (R.map ak) d1=r2 at *
 have hdrop:∀ (d2:ae),Beside d1 l.m r2.1→fD d2 l.m Fr s→fD (dropD r2.1.2.1 d2) l.m Fr s:=fun d2 hb hf=>by
  obtain⟨o1,k1⟩:=AZ (K:=Mine l.m.aa) r2.1.2.1 d2 hf.ok (fun x hx=>mW hv (fun hm=>by have:=hlt _ hm;have:=hb.mem hx;omega))
  exact hf.other (fun _ hn=>hn) o1 k1
 rcases h5 with ⟨q1,q2,q3⟩|⟨q1,q2⟩
 case inr=>
  rw [if_pos q1]
  exact⟨rfl,Or.inr ⟨q1,Or.inl ⟨rfl,(fun e=>by cases e),Or.inl ⟨rfl,hdrop _ q2 (h4.other (fun _ hn=>hn) q2.other q2.ok)⟩⟩⟩⟩
 rw [if_neg (by simp [q1])]
 have f3:=h4.other (fun _ hn=>hn) q2.beside.other q2.beside.ok
 have hS:kL r2.1.1.now r2.1.1.files (iG aj ⟨l.size,l.m,false⟩ r2.1.2.1).aa (iG aj ⟨l.size,l.m,false⟩ r2.1.2.1).aj R R.length:=by
  rcases q2.held with ⟨e,_⟩|⟨C,L,k,g1,rfl,g3,g4⟩
  ·exact absurd e q3
  ·exact⟨C,L,k,g1,rfl,by rw [List.length_append];have:=g4 rfl;omega⟩
 have hc:=yP f3 hS
 unfold dI
 simp only
 have hbb:=q2.beside
 have Zx:l.m.aa≠r2.1.2.1:=fun e=>by
  obtain⟨x,hx⟩:=List.exists_mem_of_ne_nil _ hne0
  have g1:=hlt x hx
  rw [e] at hx
  have g2:=hbb.mem hx
  (try simp only at g2)
  omega
 generalize hm':iG aj ⟨l.size,l.m,false⟩ r2.1.2.1=m' at *
 have Hw:m'.aa=r2.1.2.1:=by rw [← hm'];rfl
 have mr:m'.aj=aj:=by rw [← hm'];rfl
 generalize aK m' r2.1.1=r3 at *
 rcases hc with ⟨b1,b2,b3⟩|⟨b1,b2,b3,b4⟩|⟨b1,b2,b3⟩
 ·rw [if_neg b2,if_neg (by rw [b1];simp),if_neg (by rw [b1];simp)]
  exact⟨rfl,Or.inr ⟨b2,Or.inl ⟨rfl,(fun e=>by cases e),Or.inl ⟨rfl,hdrop _ hbb b3⟩⟩⟩⟩
 ·rw [if_pos b2,if_pos b1]
  obtain⟨o1,k1⟩:=wC (K:=Mine m'.aa) l.m.aa r3.1 b4.ok (fun x hx=>mW b4.valid (fun hm=>by rw [Hw] at hm;have:=hlt _ hx;have:=hbb.mem hm;omega))
  exact⟨rfl,Or.inl ⟨rfl,by simp [b2],mr,by rw [Hw];exact Zx,b4.other (fun _ hn=>hn) o1 k1⟩⟩
 ·rw [if_neg b2,if_pos b1,if_pos b1]
  exact⟨rfl,Or.inr ⟨b2,Or.inr ⟨mr,by rw [Hw];exact Zx,Or.inr ⟨by simp [b2],b3⟩⟩⟩⟩
/-! ### What holds of it -/
theorem Bd {aj:Nat}:∀ (l:List cB) (s:fP),(∀ f∈l,f.aj=aj)→tellAll eO aj l s=rdAll l s
 | [],s,_=>rfl
 | f::r,s,h=>by
  show (if f.aj≠aj then (s,3) else if (eO s f).2≠0 then eO s f else tellAll eO aj r (eO s f).1)=if (eO s f).2≠0 then eO s f else rdAll r (eO s f).1
  rw [if_neg (by simp [h f (by simp)]),Bd r _ (fun x hx=>h x (List.mem_cons_of_mem _ hx))]
structure iF (s:SD) (Fr:List cB) (k:Nat) (lq:List cB) (k0:Nat):Prop where
 log:gW s.1 s.2.l Fr k lq k0
 st:rdAll Fr aJ=(s.2.st,0)
 ok:fU s.2.st
 oks:fU s.2.sure
 ne:s.2.l.loose=true→Fr≠[]
theorem iF.aj {s:SD} {Fr:List cB} {k:Nat} {lq:List cB} {k0:Nat} (h:iF s Fr k lq k0):dQ (s.2.l.m.aj:Int)=true:=by
 have:=h.log.now.1
 have:=(bH.1 this).1
 unfold dQ;simp;omega
theorem iF.write {s:SD} {Fr:List cB} {k:Nat} {lq:List cB} {k0:Nat} (h:iF s Fr k lq k0) {r:Rec} (wr:mQ r) :
  (bG r s).1.2.l.size=s.2.l.size∧(bG r s).1.2.l.m.aj=s.2.l.m.aj∧(bG r s).1.2.sure=s.2.sure ∧
  (((bG r s).2=0∧∃ f,iF (bG r s).1 (Fr++[f]) k (Fr++[f]) k∧(bG r s).1.2.l.loose=false) ∨
    ((bG r s).2≠0∧(bG r s).1.2.st=s.2.st∧(iF (bG r s).1 Fr k lq k0∨iF (bG r s).1 Fr k Fr k))):=by
 have hv:=h.aj
 unfold bG
 by_cases c1:bT r=false∨r.kind=6
 ·rw [if_pos c1];exact⟨rfl,rfl,rfl,Or.inr ⟨by simp,rfl,Or.inl h⟩⟩
 rw [if_neg c1]
 have hm:bT r=true:=by cases e:bT r <;> simp_all
 have h6:r.kind≠6:=fun e=>c1 (Or.inr e)
 by_cases c2:(aX s.2.st r).2=0
 case neg=>rw [if_pos c2];exact⟨rfl,rfl,rfl,Or.inr ⟨c2,rfl,Or.inl h⟩⟩
 rw [if_neg (by simp [c2])]
 have he:=oK wr hv hm
 have c3:(fu r s).2=0:=he.1
 rw [if_neg (by simp [c3])]
 have hfr:=GX (s:=s.2.st) wr hv hm h6
 have hai:=GU (s:=s.2.st) hv c2
 have hok:=Ah (r:=r) (v:=s.2.l.m.aj) he.1
 have ha:=vo h.log ((fu r s).1.kind:Int) (fu r s).1.body
 rw [show bW ((fu r s).1.kind:Int) (fu r s).1.body (s.1,s.2.l)=eT r s from rfl] at ha
 obtain⟨a1,a2,a3⟩:=ha
 have hft:(⟨((fu r s).1.kind:Int).toNat,s.2.l.m.aj,(fu r s).1.body⟩:cB)=(dh r s.2.l.m.aj).1:=by
  have h2:=hok.2.1
  show (⟨((dh r s.2.l.m.aj).1.kind:Int).toNat,s.2.l.m.aj,(dh r s.2.l.m.aj).1.body⟩:cB)=(dh r s.2.l.m.aj).1
  generalize dh r s.2.l.m.aj=y at h2 ⊢
  rcases y with ⟨⟨a,b,c⟩,e⟩
  simp only [Int.toNat_natCast] at h2 ⊢
  subst h2;rfl
 rw [hft] at a3
 by_cases c4:(eT r s).2=0
 case neg=>
  rw [if_pos c4]
  refine⟨a1,a2,rfl,Or.inr ⟨c4,rfl,?_⟩⟩
  rcases a3 with ⟨e,_⟩|⟨_,g | g⟩
  ·exact absurd e c4
  ·exact Or.inl ⟨g,h.st,h.ok,h.oks,fun e=>wE h.log _ _ e h.ne⟩
  ·exact Or.inr ⟨g,h.st,h.ok,h.oks,fun e=>wE h.log _ _ e h.ne⟩
 rw [if_neg (by simp [c4]),a2]
 refine⟨a1,rfl,rfl,Or.inl ⟨hai,(dh r s.2.l.m.aj).1,?_⟩⟩
 rcases a3 with ⟨_,g1,g2⟩|⟨e,_⟩
 ·refine⟨⟨Or.inl ⟨g1,g2⟩,?_,?_,h.oks,fun _=>by simp⟩,g1⟩
  ·rw [CW,h.st,if_neg (by simp)]
   show (if (eO s.2.st _).2≠0 then eO s.2.st _ else rdAll [] (eO s.2.st _).1)=_
   rw [hfr,if_neg (by simp [hai])]
   show ((aX s.2.st (dM r s.2.l.m.aj)).1,(0:Int))=_
   rfl
  ·exact h.ok.apply (mQ.dM wr _)
 ·exact absurd c4 e
theorem iF.sync {s:SD} {Fr:List cB} {k:Nat} {lq:List cB} {k0:Nat} (h:iF s Fr k lq k0) :
  (iN s).1.2.l.size=s.2.l.size∧(iN s).1.2.l.m=s.2.l.m∧(iN s).1.2.st=s.2.st ∧
  (((iN s).2=0∧(iN s).1.2.sure=s.2.st∧(iN s).1.2.l.loose=false∧iF (iN s).1 Fr Fr.length Fr Fr.length)∨((iN s).2≠0∧(iN s).1.2.sure=s.2.sure∧iF (iN s).1 Fr k lq k0)):=by
 obtain⟨a1,a2,a3⟩:=Qs h.log
 refine⟨a1,a2,rfl,?_⟩
 rcases a3 with ⟨e,g1,g2⟩|⟨e,g⟩
 ·refine Or.inl ⟨e,if_pos e,g1,⟨Or.inl ⟨g1,?_⟩,h.st,h.ok,?_,fun e'=>h.ne (Bc e')⟩⟩
  ·show fD _ (fw (s.1,s.2.l)).1.2.m Fr Fr.length
   rw [a2];exact g2
  ·show fU (if (fw (s.1,s.2.l)).2=0 then s.2.st else s.2.sure)
   rw [if_pos e];exact h.ok
 ·refine Or.inr ⟨e,if_neg e,⟨g,h.st,h.ok,?_,fun e'=>h.ne (Bc e')⟩⟩
  show fU (if (fw (s.1,s.2.l)).2=0 then s.2.st else s.2.sure)
  rw [if_neg e];exact h.oks
theorem rows_ok {st:fP} (h:fU st) {v:Int} (hv:dQ v=true):∀ f∈cK v st,jI f∧f.aj=v.toNat:=by
 intro f hf
 obtain⟨r,hr,rfl⟩:=List.mem_map.1 hf
 obtain⟨w1,w2,w3⟩:=mQ.recs h r hr
 have:=Ah (oK w1 hv w2).1
 exact⟨this.1,this.2.1⟩
theorem iF.swap {s:SD} {Fr:List cB} {k:Nat} {lq:List cB} {k0:Nat} (h:iF s Fr k lq k0) {v:Int} {st:fP} (hs:fU st) (hv:(s.2.l.m.aj:Int)≤v∧v≤3) :
  (dx v st s).1.2.l.size=s.2.l.size ∧
  (((dx v st s).2=0∧(dx v st s).1.2.l.loose=false∧((dx v st s).1.2.l.m.aj:Int)=v∧(dx v st s).1.2.sure=eP v st∧iF (dx v st s).1 (cK v st) (cK v st).length (cK v st) (cK v st).length∧(dx v st s).1.2.st=eP v st) ∨
    ((dx v st s).2≠0∧(dx v st s).1.2.sure=s.2.sure ∧
   (((dx v st s).1.2.l.m.aj=s.2.l.m.aj∧(dx v st s).1.2.st=s.2.st∧iF (dx v st s).1 Fr k lq k0) ∨
     (((dx v st s).1.2.l.m.aj:Int)=v∧(dx v st s).1.2.st=eP v st∧iF (dx v st s).1 (cK v st) (cK v st).length Fr k)))):=by
 have hvk:dQ v=true:=by
  have:=h.aj
  unfold dQ at this ⊢;simp at this ⊢;omega
 unfold dx
 rw [if_neg (by omega)]
 have QA:(v.toNat:Int)=v:=by
  have:=h.aj
  unfold dQ at this;simp at this;omega
 obtain⟨a1,a2⟩:=Dr h.log v.toNat (cK v st) (rows_ok hs hvk)
 rw [show gM v.toNat ((cK v st).map ak) (s.1,s.2.l)=gV v st s from rfl] at a1 a2
 have hrd:rdAll (cK v st) aJ=(eP v st,0):=Ar hs hvk
 have hne:cK v st≠[]:=by unfold cK aM;simp
 refine⟨a1,?_⟩
 rcases a2 with ⟨e,g1,g2,g3,g4⟩|⟨e,⟨g1,g2,g3⟩|⟨g1,g2,g3⟩⟩
 ·refine Or.inl ⟨e,g1,by rw [show (_:Int)=((gV v st s).1.2.m.aj:Int) from rfl,g2,QA],if_pos e,⟨Or.inl ⟨g1,g4⟩,?_,?_,?_,fun _=>hne⟩,if_neg g3⟩
  ·show rdAll _ aJ=((if s.2.l.m.aa=(gV v st s).1.2.m.aa then s.2.st else eP v st),0)
   rw [if_neg g3];exact hrd
  ·show fU (if s.2.l.m.aa=(gV v st s).1.2.m.aa then s.2.st else eP v st)
   rw [if_neg g3];exact hs.eP v
  ·show fU (if (gV v st s).2=0 then eP v st else s.2.sure)
   rw [if_pos e];exact hs.eP v
 ·have hseg:s.2.l.m.aa=(gV v st s).1.2.m.aa:=by rw [g1]
  refine Or.inr ⟨e,if_neg e,Or.inl ⟨by show (gV v st s).1.2.m.aj=_;rw [g1],if_pos hseg,⟨g3,?_,?_,?_,fun e'=>h.ne (g2 e')⟩⟩⟩
  ·show rdAll _ aJ=((if s.2.l.m.aa=(gV v st s).1.2.m.aa then s.2.st else eP v st),0)
   rw [if_pos hseg];exact h.st
  ·show fU (if s.2.l.m.aa=(gV v st s).1.2.m.aa then s.2.st else eP v st)
   rw [if_pos hseg];exact h.ok
  ·show fU (if (gV v st s).2=0 then eP v st else s.2.sure)
   rw [if_neg e];exact h.oks
 ·refine Or.inr ⟨e,if_neg e,Or.inr ⟨by rw [show (_:Int)=((gV v st s).1.2.m.aj:Int) from rfl,g1,QA],if_neg g2,⟨g3,?_,?_,?_,fun _=>hne⟩⟩⟩
  ·show rdAll _ aJ=((if s.2.l.m.aa=(gV v st s).1.2.m.aa then s.2.st else eP v st),0)
   rw [if_neg g2];exact hrd
  ·show fU (if s.2.l.m.aa=(gV v st s).1.2.m.aa then s.2.st else eP v st)
   rw [if_neg g2];exact hs.eP v
  ·show fU (if (gV v st s).2=0 then eP v st else s.2.sure)
   rw [if_neg e];exact h.oks
theorem Un {d:ae} {m:dw} {Fr:List cB} (h:nV d m Fr):kY d=((m.aj:Int),0):=by
 unfold kY
 rw [h.head.read]
 simp only [Mc h.may]
theorem Mf {d:ae} {m:dw} {Fr:List cB} (h:nV d m Fr) (hf:d.fail=0) {st:fP} (hr:rdAll Fr aJ=(st,0)) (hok:fU st) {aj:Int} (size:Int) (hv:(m.aj:Int)≤aj∧aj≤3) :
  ∃ d',nW aj size d=(d',some ⟨⟨sized size,m,false⟩,st,st⟩,0)∧iF (d',⟨⟨sized size,m,false⟩,st,st⟩) Fr Fr.length Fr Fr.length:=by
 obtain⟨d',h1,h2,h3⟩:=Um eO h hf size aJ
 rw [Bd _ _ (fun f hf=>(h.aj f hf).2),hr,if_neg (by simp)] at h1
 refine⟨iA ⟨sized size,m,false⟩ (iR d') d',?_,⟨Or.inl ⟨rfl,Bb _ _ h2⟩,hr,hok,hok,(fun e=>by cases e)⟩⟩
 unfold nW
 rw [Un h,if_neg (by simp),if_neg (by simp only;omega),h1]
/-! ### Where nothing fails -/
structure rD (s:SD) (Fr:List cB) (k n:Nat):Prop where
 inv:iF s Fr k Fr k
 loose:s.2.l.loose=false
 rm:Rm s.1 (600 * n) (2 * n)
 aa:s.2.l.m.aa.length+n≤64
 next:s.2.l.m.next+n≤1000000
theorem iF.EN {s:SD} {Fr:List cB} {k:Nat} {lq:List cB} {k0:Nat} (h:iF s Fr k lq k0) (hl:s.2.l.loose=false):fD s.1 s.2.l.m Fr k:=by
 rcases h.log with ⟨_,g⟩|⟨e,_⟩
 ·exact g
 ·rw [hl] at e;cases e
theorem Dt {r:Rec} {s:SD} (h:(bG r s).2=0):bT r=true∧(bG r s).1.1=(eT r s).1.1∧(bG r s).1.2.l=(eT r s).1.2:=by
 unfold bG at h ⊢
 by_cases c1:bT r=false∨r.kind=6
 ·rw [if_pos c1] at h;simp at h
 rw [if_neg c1] at h ⊢
 have hm:bT r=true:=by cases e:bT r <;> simp_all
 by_cases c2:(aX s.2.st r).2=0
 case neg=>rw [if_pos c2] at h;exact absurd h c2
 rw [if_neg (by simp [c2])] at h ⊢
 by_cases c3:(fu r s).2=0
 case neg=>rw [if_pos c3] at h;exact absurd h c3
 rw [if_neg (by simp [c3])] at h ⊢
 by_cases c4:(eT r s).2=0
 case neg=>rw [if_pos c4] at h;exact absurd h c4
 rw [if_neg (by simp [c4])]
 exact⟨hm,rfl,rfl⟩
theorem rD.app {s:SD} {Fr:List cB} {k n:Nat} (h:rD s Fr k (n+1)) {r:Rec} (wr:mQ r) (hm:bT r=true) :
  (eT r s).2=0∧Rm (eT r s).1.1 (600 * n) (2 * n)∧(eT r s).1.2.m.aa.length≤s.2.l.m.aa.length+1∧(eT r s).1.2.m.next≤s.2.l.m.next+1:=by
 have hv:=h.inv.aj
 have hb:(fu r s).1.body.length≤200:=by
  show (dh r s.2.l.m.aj).1.body.length≤200
  unfold dh
  rw [if_neg (by simp [hv]),if_neg (by simp [hm])]
  exact lD _ hm
 have hok:=(Ah (r:=r) (v:=s.2.l.m.aj) (oK wr hv hm).1).1
 have hk:(fu r s).1.kind < 256:=hok.kind
 have mr:s.2.l.m.aj≤255:=by have:=h.inv.aj;unfold dQ at this;simp at this;omega
 have hp:gq (fu r s).1.kind s.2.l.m.aj (fu r s).1.body.length=0:=by
  unfold gq
  rw [if_neg (by omega),if_neg (by omega)]
 exact Dm (h.inv.EN h.loose) h.loose _ _ (B:=600 * n) (n:=2 * n) (h.rm.le (by omega) (by omega)) (by have:=h.aa;omega) (by have:=h.next;omega) hp
theorem JU {r:Rec} {s:SD} (hv:dQ (s.2.l.m.aj:Int)=true) (ha:bT r=true→(eT r s).2=0∧(eT r s).1.2.m.aj=s.2.l.m.aj) (h:(bG r s).2≠0):(bG r s).1=s:=by
 unfold bG at h ⊢
 by_cases c1:bT r=false∨r.kind=6
 ·rw [if_pos c1]
 rw [if_neg c1] at h ⊢
 have hm:bT r=true:=by cases e:bT r <;> simp_all
 by_cases c2:(aX s.2.st r).2=0
 case neg=>rw [if_pos c2]
 rw [if_neg (by simp [c2])] at h ⊢
 by_cases c3:(fu r s).2=0
 case neg=>rw [if_pos c3]
 rw [if_neg (by simp [c3])] at h ⊢
 rw [if_neg (by simp [(ha hm).1])] at h ⊢
 rw [(ha hm).2] at h
 exact absurd (GU hv c2) h
theorem rD.write {s:SD} {Fr:List cB} {k n:Nat} (h:rD s Fr k (n+1)) {r:Rec} (wr:mQ r) :
  (bG r s).1.2.l.size=s.2.l.size∧(bG r s).1.2.l.m.aj=s.2.l.m.aj∧(bG r s).1.2.sure=s.2.sure ∧
  (((bG r s).2=0∧∃ f,rD (bG r s).1 (Fr++[f]) k n)∨((bG r s).2≠0∧(bG r s).1=s)):=by
 obtain⟨a1,a2,a3,a4⟩:=h.inv.write wr
 refine⟨a1,a2,a3,?_⟩
 rcases a4 with ⟨e,f,g1,g2⟩|⟨e,_,_⟩
 ·obtain⟨e1,e2,e3⟩:=Dt e
  obtain⟨b1,b2,b3,b4⟩:=h.app wr e1
  refine Or.inl ⟨e,f,g1,g2,by rw [e2];exact b2,?_,?_⟩
  ·rw [e3];have:=h.aa;omega
  ·rw [e3];have:=h.next;omega
 ·refine Or.inr ⟨e,JU h.inv.aj (fun hm=>⟨(h.app wr hm).1,?_⟩) e⟩
  exact (vo h.inv.log ((fu r s).1.kind:Int) (fu r s).1.body).2.1
theorem rD.less {s:SD} {Fr:List cB} {k n n':Nat} (h:rD s Fr k n) (hn:n'≤n):rD s Fr k n':=
 ⟨h.inv,h.loose,h.rm.le (by omega) (by omega),by have:=h.aa;omega,by have:=h.next;omega⟩
theorem Uo {l:bK} {d:ae} (hl:l.loose=false) (h:fD d l.m [] 0):iF (d,⟨l,aJ,aJ⟩) [] 0 [] 0:=⟨Or.inl ⟨hl,h⟩,rfl,fU.zero,fU.zero,fun e=>by rw [show _=l.loose from rfl,hl] at e;cases e⟩
theorem rD.start {v:Int} (hv:1≤v∧v≤3) (size:Int) (q:Int) (n:Nat) (hq:600 * (n:Int)+278≤q∧q≤1048576) (hn:n≤62) :
  ∃ s:SD,createS v size (jF q)=(s.1,some s.2,0)∧rD s [] 0 n∧s.2.st=aJ∧s.2.sure=aJ∧(s.2.l.m.aj:Int)=v∧s.2.l.size=sized size:=by
 have hq':(jF q).dY=q.toNat:=by
  show (max 0 (min q 67108864)).toNat=q.toNat
  omega
 obtain⟨d',h1,h2,h3⟩:=Dn (d:=jF q) (B:=600 * n) (n:=2 * n) (wo q) ⟨rfl,by rw [hq'];show 0+_≤_;omega,by show 0+_≤200;omega,by rw [hq'];omega⟩ rfl (v:=v.toNat) (by omega) size
 have QA:(v.toNat:Int)=v:=by omega
 rw [QA] at h1
 refine⟨(d',⟨⟨sized size,firstM v.toNat,false⟩,aJ,aJ⟩),?_,⟨Uo rfl h2,rfl,h3,?_,?_⟩,rfl,rfl,QA,rfl⟩
 ·unfold createS;rw [h1]
 ·show 1+n≤64;omega
 ·show 2+n≤1000000;omega
def wF (x m:Int):Bool:=decide (0≤x∧x≤m)
theorem Be (x m:Int) (w:World):Calls Tryz.prog 184 #[.int .i64 x,.int .i64 m] w fun e w'=>e=.returned (.bool (wF x m))∧w'=w:=by
 by_cases h0:0≤x
 ·by_cases h1:x≤m
  ·have e:wF x m=true:=decide_eq_true ⟨h0,h1⟩
   rw [e];clear e
   go_enter Tryz.func184,Tryz.ntmps184
   go_wp2_with fail
   go_ret
   exact⟨rfl,rfl⟩
  ·have e:wF x m=false:=decide_eq_false (fun h=>h1 h.2)
   have q:decide (x≤m)=false:=decide_eq_false h1
   rw [e];clear e h1
   go_enter Tryz.func184,Tryz.ntmps184
   go_wp2_with fail
   go_ret
   exact⟨rfl,rfl⟩
 ·have e:wF x m=false:=decide_eq_false (fun h=>h0 h.1)
  have q:decide (0≤x)=false:=decide_eq_false h0
  rw [e];clear e h0
  go_enter Tryz.func184,Tryz.ntmps184
  go_wp2_with fail
  go_ret
  exact⟨rfl,rfl⟩
theorem Mg (x:Int) (w:World):Calls Tryz.prog 185 #[.int .i64 x] w fun e w'=>e=.returned (.bool (wF x 1099511627776))∧w'=w:=by
 by_cases h0:0≤x
 ·by_cases h1:x≤1099511627776
  ·have e:wF x 1099511627776=true:=decide_eq_true ⟨h0,h1⟩
   rw [e];clear e
   go_enter Tryz.func185,Tryz.ntmps185
   go_wp2_with fail
   go_ret
   exact⟨rfl,rfl⟩
  ·have e:wF x 1099511627776=false:=decide_eq_false (fun h=>h1 h.2)
   have q:decide (x≤1099511627776)=false:=decide_eq_false h1
   rw [e];clear e h1
   go_enter Tryz.func185,Tryz.ntmps185
   go_wp2_with fail
   go_ret
   exact⟨rfl,rfl⟩
 ·have e:wF x 1099511627776=false:=decide_eq_false (fun h=>h0 h.1)
  have q:decide (0≤x)=false:=decide_eq_false h0
  rw [e];clear e h0
  go_enter Tryz.func185,Tryz.ntmps185
  go_wp2_with fail
  go_ret
  exact⟨rfl,rfl⟩
theorem vz (x:Int) (w:World):Calls Tryz.prog 191 #[.int .i64 x] w fun e w'=>e=.returned (.bool (dQ x))∧w'=w:=by
 by_cases h0:1≤x
 ·by_cases h1:x≤3
  ·have e:dQ x=true:=decide_eq_true ⟨h0,h1⟩
   rw [e];clear e
   go_enter Tryz.func191,Tryz.ntmps191
   go_wp2_with fail
   go_ret
   exact⟨rfl,rfl⟩
  ·have e:dQ x=false:=decide_eq_false (fun h=>h1 h.2)
   have q:decide (x≤3)=false:=decide_eq_false h1
   rw [e];clear e h1
   go_enter Tryz.func191,Tryz.ntmps191
   go_wp2_with fail
   go_ret
   exact⟨rfl,rfl⟩
 ·have e:dQ x=false:=decide_eq_false (fun h=>h0 h.1)
  have q:decide (1≤x)=false:=decide_eq_false h0
  rw [e];clear e h0
  go_enter Tryz.func191,Tryz.ntmps191
  go_wp2_with fail
  go_ret
  exact⟨rfl,rfl⟩
theorem QB (b:Bk):gu b=(wF b.id 65535 && decide (1≤b.weight∧b.weight≤10)):=rfl
section
variable {F0:List Nat} {w0 w:World} {R:List az}
theorem Xz (b:Bk) (h:In F0 w0 w R):Calls Tryz.prog 188 #[.agg (lF b).toArray] w fun e w'=>e=.returned (.bool (gu b))∧In F0 w0 w' R:=by
 have G:=Lib.hid ((h.cells (lF b).toArray 160).drop)
 have K:=Lib.hid (Be b.id 65535)
 rw [QB]
 obtain⟨id,addr,wt⟩:=b
 simp only at K ⊢
 clear h
 cases hi:wF id 65535 with
 | false=>
  rw [hi] at K;clear hi
  go_enter Tryz.func188,Tryz.ntmps188
  go_wp2_with fail
  refine (K.out _).mono ?_
  rintro e w1 ⟨rfl,rfl⟩
  clear K
  go_wp2_with fail
  go_ret
  exact⟨rfl,G.out⟩
 | true=>
  rw [hi] at K;clear hi
  by_cases h1:1≤wt
  ·by_cases h2:wt≤10
   ·have e:(true && decide (1≤wt∧wt≤10))=true:=by simp [h1,h2]
    rw [e];clear e
    go_enter Tryz.func188,Tryz.ntmps188
    go_wp2_with fail
    refine (K.out _).mono ?_
    rintro e w1 ⟨rfl,rfl⟩
    clear K
    go_wp2_with fail
    go_ret
    exact⟨rfl,G.out⟩
   ·have e:(true && decide (1≤wt∧wt≤10))=false:=by simp [h1,h2]
    have q:decide (wt≤10)=false:=decide_eq_false h2
    rw [e];clear e h2
    go_enter Tryz.func188,Tryz.ntmps188
    go_wp2_with fail
    refine (K.out _).mono ?_
    rintro e w1 ⟨rfl,rfl⟩
    clear K
    go_wp2_with fail
    go_ret
    exact⟨rfl,G.out⟩
  ·have e:(true && decide (1≤wt∧wt≤10))=false:=by simp [h1]
   have q:decide (1≤wt)=false:=decide_eq_false h1
   rw [e];clear e h1
   go_enter Tryz.func188,Tryz.ntmps188
   go_wp2_with fail
   refine (K.out _).mono ?_
   rintro e w1 ⟨rfl,rfl⟩
   clear K
   go_wp2_with fail
   go_ret
   exact⟨rfl,G.out⟩
theorem QC (b:Bk) (h:In F0 w0 w R):Calls Tryz.prog 187 #[.agg (lF b).toArray] w fun e w'=>e=.returned (.bool (!gu b))∧In F0 w0 w' R:=by
 have K:=Lib.hid (Xz b ((h.cells (lF b).toArray 160).drop))
 obtain⟨id,addr,wt⟩:=b
 clear h
 go_enter Tryz.func187,Tryz.ntmps187
 go_wp2_with fail
 refine K.out.mono ?_
 rintro e w1 ⟨rfl,g⟩
 have G:=Lib.hid g
 clear g K
 go_wp2_with fail
 go_ret
 exact⟨rfl,G.out⟩
theorem Src.plain {w:World} {A:Option Addr} {m k:Nat} {news:List Value} (h:Src w A m k news) (h0:0 < m) (hk:0 < k):∃ g o,A=some ⟨g,o,none⟩∧∀ j u,news[j]?=some u→w.cell? ⟨g,o+j,none⟩=some u:=by
 obtain⟨ad,e,hc⟩:=h.at' h0
 have hl:0 < news.length:=by rw [h.len];exact Nat.mul_pos h0 hk
 have c0:=hc 0 _ (List.getElem?_eq_getElem hl)
 have e2:=CL c0
 refine⟨ad.block,ad.off,by rw [e];exact congrArg some e2,fun j u hu=>?_⟩
 have:=hc j u hu
 rw [e2,add_plain] at this
 exact this
def gZ (F0:List Nat) (w0:World) (R:List az) (A:Option Addr) (l:List Bk):Prop:=∀ w',In F0 w0 w' R→Src w' A l.length 3 (oD l)
theorem gZ.cell {A:Option Addr} {l:List Bk} (hs:gZ F0 w0 R A l) (h:In F0 w0 w R) {k:Nat} {b:Bk} (hb:l[k]?=some b):∃ g o,A=some ⟨g,o,none⟩∧w.cell? ⟨g,o+k * 3,none⟩=some (.int .i64 b.id)∧w.cell? ⟨g,o+k * 3+1,none⟩=some (.int .u32 b.addr)∧w.cell? ⟨g,o+k * 3+2,none⟩=some (.int .i64 b.weight):=by
 have hk:=(List.getElem?_eq_some_iff.1 hb).1
 obtain⟨g,o,e,hc⟩:=(hs w h).plain (by omega) (by decide)
 obtain⟨b0,b1,b2⟩:=JE hb
 exact⟨g,o,e,hc _ _ b0,hc _ _ b1,hc _ _ b2⟩
def JV (l:List Bk) (F0:List Nat) (w0:World) (R:List az) (i:Value) (wr:World):Prop:=∃ k:Nat,k≤l.length∧i=.int .i64 k∧(∀ b∈l.take k,gu b=true)∧In F0 w0 wr R
def EO (l:List Bk) (F0:List Nat) (w0:World) (R:List az) (e:Ending) (w':World):Prop:=∃ z:Int,e=.returned (.int .i64 z)∧decide (0≤z)=l.any (fun b=>!gu b)∧In F0 w0 w' R
theorem QD {l:List Bk} {k:Nat} {b:Bk} (hb:l[k]?=some b) (ha:∀ b∈l.take k,gu b=true) (h:gu b=true) (hi:In F0 w0 w R):JV l F0 w0 R (.int .i64 ((k:Int)+1)) w:=by
 refine⟨k+1,(List.getElem?_eq_some_iff.1 hb).1,by rw [Int.natCast_add];rfl,fun x hx=>?_,hi⟩
 rw [List.take_add_one,hb] at hx
 rcases List.mem_append.1 hx with hx | hx
 ·exact ha x hx
 ·simp at hx;subst hx;exact h
theorem Uq {l:List Bk} {A:Option Addr} {c:Nat} (hs:gZ F0 w0 R A l) (hl:l.length≤1000000000) (h:In F0 w0 w R):Calls Tryz.prog 232 #[.slice A l.length c,.func (.func 187) #[] #[]] w (EO l F0 w0 R):=by
 have HR:Hid (JV l F0 w0 R (.int .i64 0) w):=Lib.hid ⟨0,Nat.zero_le _,rfl,by simp,h⟩
 have HS:=Lib.hid hs
 have hln:l.length≤1000000000:=hl
 clear h hs hl
 go_enter Tryz.func232,Tryz.ntmps232
 go_wp2_with fail
 go_loopw [8] (JV l F0 w0 R) (fun k _=>l.length - (intOf k).toNat)
 case atStart=>exact HR.out
 case round=>
  obtain⟨k,hk,rfl,hall,dC⟩:=hrel
  clear HR
  by_cases hlt:k < l.length
  ·obtain⟨b,hb⟩:∃ b,l[k]?=some b:=⟨l[k],List.getElem?_eq_getElem hlt⟩
   obtain⟨g,o,rfl,c0,c1,c2⟩:=HS.out.cell dC hb
   have hlt':(k:Int) < (l.length:Int):=Int.ofNat_lt.2 hlt
   have hw2:wrap64 ((k:Int)+1)=(k:Int)+1:=by unfold wrap64;omega
   have K:=Lib.hid (QC b dC)
   have HN:=Lib.hid (fun (h1:gu b=true) w' (h':In F0 w0 w' R)=>QD (w:=w') hb hall h1 h')
   have HX:=Lib.hid (fun (h1:gu b=false) w' (h':In F0 w0 w' R)=>(show EO l F0 w0 R (.returned (.int .i64 k)) w' from ⟨k,rfl,by
    have:l.any (fun b=>!gu b)=true:=List.any_eq_true.2 ⟨b,List.mem_of_getElem? hb,by simp [h1]⟩
    rw [this];simp,h'⟩))
   clear dC hall hb hlt hk
   cases hm:gu b with
   | true=>
    rw [hm] at K
    have Ur:=Lib.hid (HN.out hm)
    clear HN HX hm
    go_wp2_with fail
    refine K.out.mono ?_
    rintro e w1 ⟨rfl,g1⟩
    have uf:=Lib.hid (Ur.out w1 g1)
    clear g1 K Ur
    go_wp2_with fail
    go_roundw
    case rel=>(try rw [hw2]);exact uf.out
    case measure=>(try rw [hw2]);exact dV hlt'
   | false=>
    rw [hm] at K
    have YX:=Lib.hid (HX.out hm)
    clear HN HX hm
    go_wp2_with fail
    refine K.out.mono ?_
    rintro e w1 ⟨rfl,g1⟩
    have uf:=Lib.hid (YX.out w1 g1)
    clear g1 K YX
    go_wp2_with fail
    go_ret
    exact uf.out
  ·have hge:(l.length:Int)≤(k:Int):=Int.ofNat_le.2 (Nat.le_of_not_lt hlt)
   have hkl:l.take k=l:=List.take_of_length_le (Nat.le_of_not_lt hlt)
   rw [hkl] at hall
   have G:Hid (EO l F0 w0 R (.returned (.int .i64 (-1))) wr):=Lib.hid ⟨-1,rfl,by
    have:l.any (fun b=>!gu b)=false:=List.any_eq_false.2 (fun b hb=>by simp [hall b hb])
    rw [this];rfl,dC⟩
   clear dC hkl hlt hk hall
   go_wp2_with fail
   go_ret
   exact G.out
theorem QE {l:List Bk} {A:Option Addr} {c:Nat} (hs:gZ F0 w0 R A l) (hl:l.length≤1000000000) (h:In F0 w0 w R):Calls Tryz.prog 186 #[.slice A l.length c,.func (.func 187) #[] #[]] w fun e w'=>e=.returned (.bool (l.any (fun b=>!gu b)))∧In F0 w0 w' R:=by
 have K:=Lib.hid (Uq (c:=c) hs hl h)
 clear h hs hl
 go_enter Tryz.func186,Tryz.ntmps186
 go_wp2_with fail
 refine K.out.mono ?_
 rintro e w1 ⟨z,rfl,hz,g⟩
 have HZ:=Lib.hid hz
 have G:=Lib.hid g
 clear g K hz
 go_wp2_with fail
 go_ret
 exact⟨by rw [← HZ.out];rfl,G.out⟩
end
theorem JW (t:rU) (w:World):Calls Tryz.prog 183 #[.agg (dH t)] w fun e w'=>e=.returned (.bool (decide (rW t)))∧w'=w.alloc (.cells (dH t) 65):=by
 by_cases h:rW t
 ·rw [decide_eq_true h];exact MX h w
 ·rw [decide_eq_false h];exact Jw h w
theorem XA (f:Fl):decide (uM f)=(decide (rW f.t) && (wF f.bk 65535 && (wF f.gen 1000000 && wF f.seen 1099511627776))):=by
 unfold wF
 rw [Bool.eq_iff_iff]
 simp only [decide_eq_true_eq,Bool.and_eq_true,GD]
 constructor
 ·rintro ⟨a,b,c,d,e,f,g⟩;exact⟨a,⟨b,c⟩,⟨d,e⟩,f,g⟩
 ·rintro ⟨a,⟨b,c⟩,⟨d,e⟩,f,g⟩;exact⟨a,b,c,d,e,f,g⟩
theorem Us (l:List Bk):(!l.any (fun b=>!gu b))=l.all gu:=by
 induction l with
 | nil=>rfl
 | cons b l ih=>simp only [List.any_cons,List.all_cons,Bool.not_or,Bool.not_not,ih]
section
variable {F0:List Nat} {w0 w:World} {R:List az}
abbrev uy (r:Rec) (A:Option Addr) (c:Nat):Value:=.agg (aF r (.slice A r.ax.length c)).toArray
theorem jE {r:Rec} {A:Option Addr} {c:Nat} (hs:gZ F0 w0 R A r.ax) (hl:r.ax.length≤1000000000) (h:In F0 w0 w R):Calls Tryz.prog 99 #[uy r A c] w fun e w'=>e=.returned (.bool (bT r))∧In F0 w0 w' R:=by
 have H:=Lib.hid h
 have HS:=Lib.hid hs
 have HL:=Lib.hid hl
 clear h hs hl
 obtain⟨kind,fl,gen,ax,bk,till,count⟩:=r
 by_cases k1:kind=1
 ·subst k1
  have e:bT ⟨1,fl,gen,ax,bk,till,count⟩=decide (uM fl):=rfl
  rw [e,XA];clear e
  have KT:=Lib.hid (JW fl.t)
  obtain⟨⟨src,dst,proto,ag,ah⟩,bI,aG,au⟩:=fl
  simp only at KT ⊢
  have K1:=Lib.hid (Be bI 65535)
  have K2:=Lib.hid (Be aG 1000000)
  have K3:=Lib.hid (Mg au)
  generalize decide (rW ⟨src,dst,proto,ag,ah⟩)=mt at *
  generalize wF bI 65535=b1 at *
  generalize wF aG 1000000=b2 at *
  generalize wF au 1099511627776=b3 at *
  cases mt with
  | false=>
   go_enter Tryz.func99,Tryz.ntmps99
   go_wp2_with fail
   refine (KT.out _).mono ?_
   rintro e w1 ⟨rfl,rfl⟩
   clear KT
   go_wp2_with fail
   go_ret
   exact⟨rfl,((H.out.alloc _).alloc _).alloc _⟩
  | true=>
   cases b1 with
   | false=>
    go_enter Tryz.func99,Tryz.ntmps99
    go_wp2_with fail
    refine (KT.out _).mono ?_
    rintro e w1 ⟨rfl,rfl⟩
    clear KT
    go_wp2_with fail
    refine (K1.out _).mono ?_
    rintro e w1 ⟨rfl,rfl⟩
    clear K1
    go_wp2_with fail
    go_ret
    exact⟨rfl,((H.out.alloc _).alloc _).alloc _⟩
   | true=>
    cases b2 with
    | false=>
     go_enter Tryz.func99,Tryz.ntmps99
     go_wp2_with fail
     refine (KT.out _).mono ?_
     rintro e w1 ⟨rfl,rfl⟩
     clear KT
     go_wp2_with fail
     refine (K1.out _).mono ?_
     rintro e w1 ⟨rfl,rfl⟩
     clear K1
     go_wp2_with fail
     refine (K2.out _).mono ?_
     rintro e w1 ⟨rfl,rfl⟩
     clear K2
     go_wp2_with fail
     go_ret
     exact⟨rfl,((H.out.alloc _).alloc _).alloc _⟩
    | true=>
     go_enter Tryz.func99,Tryz.ntmps99
     go_wp2_with fail
     refine (KT.out _).mono ?_
     rintro e w1 ⟨rfl,rfl⟩
     clear KT
     go_wp2_with fail
     refine (K1.out _).mono ?_
     rintro e w1 ⟨rfl,rfl⟩
     clear K1
     go_wp2_with fail
     refine (K2.out _).mono ?_
     rintro e w1 ⟨rfl,rfl⟩
     clear K2
     go_wp2_with fail
     refine (K3.out _).mono ?_
     rintro e w1 ⟨rfl,rfl⟩
     clear K3
     go_wp2_with fail
     go_ret
     exact⟨by simp,((H.out.alloc _).alloc _).alloc _⟩
 by_cases k2:kind=2
 ·subst k2
  have e:bT ⟨2,fl,gen,ax,bk,till,count⟩=decide (rW fl.t):=rfl
  rw [e];clear e k1
  have KT:=Lib.hid (JW fl.t)
  obtain⟨⟨src,dst,proto,ag,ah⟩,bI,aG,au⟩:=fl
  simp only at KT ⊢
  go_enter Tryz.func99,Tryz.ntmps99
  go_wp2_with fail
  refine (KT.out _).mono ?_
  rintro e w1 ⟨rfl,rfl⟩
  clear KT
  go_wp2_with fail
  go_ret
  exact⟨rfl,(H.out.alloc _).alloc _⟩
 by_cases k3:kind=3
 ·subst k3
  have e:bT ⟨3,fl,gen,ax,bk,till,count⟩=(wF gen 1000000 && (decide (ax.length≤16) && ax.all gu)):=rfl
  rw [e,← Us];clear e k1 k2
  have K1:=Lib.hid (Be gen 1000000)
  have HG:Hid (∀ o,In F0 w0 (w.alloc o) R):=Lib.hid fun o=>H.out.alloc o
  have K2:Hid (∀ o,Calls Tryz.prog 186 #[.slice A ax.length c,.func (.func 187) #[] #[]] (w.alloc o) fun e w'=>e=.returned (.bool (ax.any (fun b=>!gu b)))∧In F0 w0 w' R):=Lib.hid fun o=>QE HS.out HL.out (HG.out o)
  generalize wF gen 1000000=b1 at *
  generalize ax.any (fun b=>!gu b)=b2 at *
  cases b1 with
  | false=>
   go_enter Tryz.func99,Tryz.ntmps99
   go_wp2_with fail
   refine (K1.out _).mono ?_
   rintro e w1 ⟨rfl,rfl⟩
   clear K1
   go_wp2_with fail
   go_ret
   exact⟨rfl,H.out.alloc _⟩
  | true=>
   by_cases h16:ax.length≤16
   ·have q:((ax.length:Nat):Int)≤16:=by omega
    have e:(true && (decide (ax.length≤16) && !b2))=!b2:=by simp [h16]
    rw [e];clear e h16
    go_enter Tryz.func99,Tryz.ntmps99
    go_wp2_with fail
    refine (K1.out _).mono ?_
    rintro e w1 ⟨rfl,rfl⟩
    clear K1
    go_wp2_with fail
    refine (K2.out _).mono ?_
    rintro e w1 ⟨rfl,g⟩
    have G:=Lib.hid g
    clear g K2
    go_wp2_with fail
    go_ret
    exact⟨by simp,G.out⟩
   ·have q:decide (((ax.length:Nat):Int)≤16)=false:=decide_eq_false (by omega)
    have q2:decide (ax.length≤16)=false:=decide_eq_false h16
    have e:(true && (decide (ax.length≤16) && !b2))=false:=by simp [h16]
    rw [e];clear e h16
    go_enter Tryz.func99,Tryz.ntmps99
    go_wp2_with fail
    refine (K1.out _).mono ?_
    rintro e w1 ⟨rfl,rfl⟩
    clear K1
    go_wp2_with fail
    go_ret
    exact⟨rfl,H.out.alloc _⟩
 by_cases k4:kind=4
 ·subst k4
  have e:bT ⟨4,fl,gen,ax,bk,till,count⟩=(wF bk 65535 && wF till 1099511627776):=rfl
  rw [e];clear e k1 k2 k3
  have K1:=Lib.hid (Be bk 65535)
  have K2:=Lib.hid (Mg till)
  generalize wF bk 65535=b1 at *
  generalize wF till 1099511627776=b2 at *
  cases b1 with
  | false=>
   go_enter Tryz.func99,Tryz.ntmps99
   go_wp2_with fail
   refine (K1.out _).mono ?_
   rintro e w1 ⟨rfl,rfl⟩
   clear K1
   go_wp2_with fail
   go_ret
   exact⟨rfl,H.out.alloc _⟩
  | true=>
   go_enter Tryz.func99,Tryz.ntmps99
   go_wp2_with fail
   refine (K1.out _).mono ?_
   rintro e w1 ⟨rfl,rfl⟩
   clear K1
   go_wp2_with fail
   refine (K2.out _).mono ?_
   rintro e w1 ⟨rfl,rfl⟩
   clear K2
   go_wp2_with fail
   go_ret
   exact⟨by simp,H.out.alloc _⟩
 by_cases k5:kind=5
 ·subst k5
  have e:bT ⟨5,fl,gen,ax,bk,till,count⟩=wF bk 65535:=rfl
  rw [e];clear e k1 k2 k3 k4
  have K1:=Lib.hid (Be bk 65535)
  go_enter Tryz.func99,Tryz.ntmps99
  go_wp2_with fail
  refine (K1.out _).mono ?_
  rintro e w1 ⟨rfl,rfl⟩
  clear K1
  go_wp2_with fail
  go_ret
  exact⟨rfl,H.out.alloc _⟩
 by_cases k6:kind=6
 ·subst k6
  have e:bT ⟨6,fl,gen,ax,bk,till,count⟩=wF count 1000000:=rfl
  rw [e];clear e k1 k2 k3 k4 k5
  have K1:=Lib.hid (Be count 1000000)
  go_enter Tryz.func99,Tryz.ntmps99
  go_wp2_with fail
  refine (K1.out _).mono ?_
  rintro e w1 ⟨rfl,rfl⟩
  clear K1
  go_wp2_with fail
  go_ret
  exact⟨rfl,H.out.alloc _⟩
 ·have e:bT ⟨kind,fl,gen,ax,bk,till,count⟩=false:=by unfold bT;simp only;rw [if_neg k1,if_neg k2,if_neg k3,if_neg k4,if_neg k5,if_neg k6]
  rw [e];clear e
  have q1:(kind == 1)=false:=beq_eq_false_iff_ne.2 k1
  have q2:(kind == 2)=false:=beq_eq_false_iff_ne.2 k2
  have q3:(kind == 3)=false:=beq_eq_false_iff_ne.2 k3
  have q4:(kind == 4)=false:=beq_eq_false_iff_ne.2 k4
  have q5:(kind == 5)=false:=beq_eq_false_iff_ne.2 k5
  have q6:(kind == 6)=false:=beq_eq_false_iff_ne.2 k6
  clear k1 k2 k3 k4 k5 k6
  go_enter Tryz.func99,Tryz.ntmps99
  go_wp2_with fail
  go_ret
  exact⟨rfl,H.out.alloc _⟩
end
end Go.Proofs.YtogclkhpbjfadaaGreat
