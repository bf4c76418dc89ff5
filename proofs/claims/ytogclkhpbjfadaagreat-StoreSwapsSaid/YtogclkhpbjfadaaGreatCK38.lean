/- Parts of the proofs that a compaction keeps what lives, and done again is as once. -/
import Derived.Test.YtogclkhpbjfadaaGreatCK37
import Derived.Test.YtogclkhpbjfadaaGreatCK32
namespace Go.Proofs.YtogclkhpbjfadaaGreat
open Go.RowKit
set_option linter.unusedVariables false
set_option maxHeartbeats 64000000
set_option maxRecDepth 100000
theorem Cj {B n:Nat}:∀ (l:List Nat) (d:ae) (K:ByteArray→Prop),aP d→Rm d B n→Only d K→Rm (iB l d) B n∧Only (iB l d) (fun x=>K x∧∀ s∈l,x≠ai s)
 | [],d,K,h,hr,ho=>⟨hr,fun x hx=>⟨ho x hx,by simp⟩⟩
 | s::r,d,K,h,hr,ho=>by
  have h1:Rm (cZ d (ai s)).1 B n:=by
   cases e:bQ d.now (ai s) with
   | none=>unfold cZ;rw [if_neg (kX hr.fail),e];exact hr.tick
   | some i=>exact (Dk hr e).2
  obtain⟨a1,a2⟩:=Cj r _ _ (nS h (ai s)) h1 (zh h hr.fail ho (ai s))
  refine⟨a1,a2.mono (fun x hx=>⟨hx.1.1,fun y hy=>?_⟩)⟩
  rcases List.mem_cons.1 hy with rfl | hy
  ·exact hx.1.2
  ·exact hx.2 y hy
theorem YK {l:bK} {aj:Nat} {aa:List Nat} (mr:1≤aj∧aj≤3) (hn1:1≤l.m.next) (hn:l.m.next+64≤1000000) (hs:aa=(List.range aa.length).map (fun i=>l.m.next+i)) (h1:1≤aa.length) (h2:aa.length≤64):fM (iG aj l aa)=true:=by
 refine bH.2 ⟨⟨mr.1,mr.2,h1,h2,by show 1≤l.m.next+aa.length;omega,by show l.m.next+aa.length≤1000000;omega⟩,?_⟩
 show upB (l.m.next+aa.length) 0 aa=true
 have hp:aa.Pairwise (· < ·):=by rw [hs];exact vw _ _
 refine EK hp (fun x hx=>?_)
 rw [hs] at hx
 simp only [List.mem_map,List.mem_range] at hx
 obtain⟨i,hi,rfl⟩:=hx
 omega
theorem gm {σ:Type} {P:σ→Prop} {r:σ×Int} {f:σ→σ×Int} (h:P r.1) (hf:∀ s,P s→P (f s).1):P (bR r f).1:=by
 unfold bR
 split
 ·exact hf _ h
 ·exact h
theorem Gq {d:ae} (h:aP d) (m:dw):aP (aK m d).1:=by
 have h1:aP (eQ m d).1:=gm (P:=aP) (gm (P:=aP) (gm (P:=aP) (jM h aB) (fun s hs=>iy hs _ _)) (fun s hs=>gU hs _)) (fun s hs=>rq hs _ _)
 unfold aK
 split
 ·exact h
 ·split
  ·exact h1
  ·exact yN h1
structure aaR (d:ae) (l:bK) (aj B n c:Nat) (r:DL×Int):Prop where
 ok:r.2=0
 rm:Rm r.1.1 B n
 only:Only r.1.1 (Mine r.1.2.m.aa)
 cnt:r.1.2.m.aa.length=c
 next:r.1.2.m.next=l.m.next+c
 few:c≤64
theorem VX {d:ae} {l:bK} {Fr:List cB} {k B n:Nat} (h:fD d l.m Fr k) (hl:l.loose=false) (ho:Only d (Mine l.m.aa)) {aj:Nat} (mr:1≤aj∧aj≤3) {R:List cB} (hR:∀ f∈R,jI f∧f.aj=aj) (hne:R≠[]) (hr:Rm d (B+278+(aN R).length) (n+65)) (hx:l.m.next+64≤1000000) :
  aaR d l aj B n (vL l.size (R.map ak) (0,0)).1 (gM aj (R.map ak) (d,l))∨((gM aj (R.map ak) (d,l)).2=4∧64 < (vL l.size (R.map ak) (0,0)).1):=by
 have hset:aY (d,l)=((d,l),0):=by unfold aY;simp [hl]
 have hn1:1≤l.m.next:=(bH.1 h.now.1).1.2.2.2.2.1
 unfold gM
 rw [hset]
 simp only
 rw [if_neg (by simp)]
 have hlaid:=Ht (l:=l) h.ok h.now.1 R hR
 rcases YI (K:=Mine l.m.aa) (B:=B+278) (n:=n+1) h.ok h.now.1 hx R hR hne (hr.le (by omega) (by omega)) ho with q | ⟨q1,q2⟩
 case inr=>rw [if_pos (by rw [q1];decide)];exact Or.inr ⟨q1,q2⟩
 obtain⟨q1,q2,q3,q4,q5⟩:=q
 rw [if_neg (by simp [q1])]
 rcases hlaid with ⟨_,g2,g3⟩|⟨g1,_⟩
 case inr=>exact absurd q1 g1
 have hb:=g2.beside
 have hc:=congrArg Prod.fst q3
 simp only at hc
 generalize fH l (R.map ak) d=r2 at *
 have h1:1≤r2.1.2.1.length:=List.length_pos_iff.2 g3
 have hm:=YK mr hn1 hx hb.aa h1 q5
 obtain⟨c1,c2,c3⟩:=xU hb.ok hm (q2.le (Nat.le_refl _) (by omega):Rm r2.1.1 (B+278) (n+1))
 have c4:=tL hb.ok hm (q2.le (Nat.le_refl _) (by omega):Rm r2.1.1 (B+278) (n+1)) q4 (Or.inl (Or.inl rfl))
 have c5:=Gq hb.ok (iG aj l r2.1.2.1)
 unfold dI
 simp only
 rw [if_pos c2,if_pos c1]
 obtain⟨e1,e2⟩:=Cj l.m.aa _ _ c5 c3 c4
 refine Or.inl ⟨rfl,e1,e2.mono (fun x hx=>?_),hc,by show l.m.next+r2.1.2.1.length=_;rw [hc],by rw [← hc];exact q5⟩
 rcases hx.1 with (h | ⟨s,hs,e⟩) | ⟨s,hs,e⟩
 ·exact Or.inl h
 ·exact absurd e (hx.2 s hs)
 ·exact Or.inr ⟨s,hs,e⟩
theorem Jj:∀ (C:List (List cB)) (L:List cB),((C++[L]).map (fun x=>(aN x).length)).sum=(aN (C.flatten++L)).length
 | [],L=>by simp
 | c::C,L=>by
  have h:=Jj C L
  rw [List.cons_append,List.map_cons,List.sum_cons,h,List.flatten_cons,List.append_assoc,jo c,List.length_append]
theorem VY {d:ae} {l:bK} {Fr:List cB} {k:Nat} (h:fD d l.m Fr k):jX (d,l)=(aN Fr).length:=by
 obtain⟨C,L,k,g1,rfl,_⟩:=h.now.2.2
 rw [← Jj]
 unfold jX
 congr 1
 have hl:=g1.len
 refine List.ext_getElem (by simp [hl]) (fun i h1 h2=>?_)
 simp only [List.length_map] at h1
 rw [List.getElem_map,List.getElem_map]
 have e1:l.m.aa[i]=l.m.aa.getD i 0:=by rw [List.getD_eq_getElem?_getD,List.getElem?_eq_getElem h1];rfl
 simp only [e1]
 unfold bytesD
 by_cases hc:i < C.length
 ·rw [(g1.closed i hc).read,List.getElem_append_left hc]
  have e2:C[i]=C.getD i []:=by rw [List.getD_eq_getElem?_getD,List.getElem?_eq_getElem hc];rfl
  rw [e2];rfl
 ·have e3:i=C.length:=by omega
  subst e3
  rw [g1.last.read,List.getElem_append_right (Nat.le_refl _)]
  simp
theorem head_ne {s:Nat} (h:1≤s∧s < 1000000):bL≠ai s:=fun e=>mW (aa:=[]) (by simp) (x:=s) (by simp) (Or.inl e.symm)
theorem Tv {d:ae} {m:dw} {Fr:List cB} {k:Nat} (h:fD d m Fr k) (ho:Only d (Mine m.aa)):(d.now.map (·.1)).Perm (bL::m.aa.map ai):=by
 have hv:=h.valid
 refine (List.perm_ext_iff_of_nodup (jB.keys h.ok.now.row) ?_).2 (fun x=>?_)
 ·refine List.nodup_cons.2 ⟨fun hm=>?_,?_⟩
  ·obtain⟨s,hs,e⟩:=List.mem_map.1 hm
   exact head_ne (hv s hs) e.symm
  ·refine List.pairwise_map.2 (List.Pairwise.imp_of_mem (fun {a b} ha hb hab e=>?_) (qf h.now.1))
   have:=mV (hv a ha) (hv b hb) e
   omega
 ·have h1:x∈d.now.map (·.1)↔bQ d.now x≠Option.none:=by
   rw [Ne,jR,List.mem_map]
   constructor
   ·rintro ⟨y,hy,rfl⟩ hh;exact hh y hy rfl
   ·intro hh
    refine Classical.byContradiction fun hc=>hh (fun y hy e=>hc ⟨y,hy,e⟩)
  rw [h1]
  constructor
  ·intro hx
   rcases ho x hx with rfl | ⟨s,hs,rfl⟩
   ·simp
   ·exact List.mem_cons_of_mem _ (List.mem_map_of_mem hs)
  ·intro hx
   rcases List.mem_cons.1 hx with rfl | hx
   ·obtain⟨i,hi,_⟩:=h.now.2.1
    rw [hi];simp
   ·obtain⟨s,hs,rfl⟩:=List.mem_map.1 hx
    obtain⟨C,L,k,g1,_⟩:=h.now.2.2
    obtain⟨i,hi,e⟩:=List.getElem_of_mem hs
    have e1:m.aa.getD i 0=s:=by rw [List.getD_eq_getElem?_getD,List.getElem?_eq_getElem hi,← e];rfl
    by_cases hc:i < C.length
    ·obtain⟨j,hj,_⟩:=g1.closed i hc
     rw [e1] at hj;rw [hj];simp
    ·have:=g1.len
     have e3:i=C.length:=by omega
     subst e3
     obtain⟨j,hj,_⟩:=g1.last
     rw [e1] at hj;rw [hj];simp
theorem Eb {d:ae} {m:dw} {Fr:List cB} {k:Nat} (h:fD d m Fr k) (ho:Only d (Mine m.aa)):d.now.length=m.aa.length+1:=by
 have:=(Tv h ho).length_eq
 simpa using this
structure Cz (s:SD) (Fr:List cB) (k n:Nat):Prop where
 so:rD s Fr k n
 rm:Rm s.1 (200000+600 * n) (2 * n)
 aa:s.2.l.m.aa.length+n≤62
 next:s.2.l.m.next+n≤63
 only:Only s.1 (Mine s.2.l.m.aa)
theorem MR {r:Rec} {v:Int} (hv:dQ v=true) (hm:bT r=true):(dh r v).1.body.length≤200:=by
 unfold dh
 rw [if_neg (by simp [hv]),if_neg (by simp [hm])]
 exact lD _ hm
theorem Cz.less {s:SD} {Fr:List cB} {k n n':Nat} (h:Cz s Fr k n) (hn:n'≤n):Cz s Fr k n':=
 ⟨h.so.less hn,h.rm.le (by omega) (by omega),by have:=h.aa;omega,by have:=h.next;omega,h.only⟩
theorem Cz.write {s:SD} {Fr:List cB} {k n:Nat} (h:Cz s Fr k (n+1)) {r:Rec} (wr:mQ r):∃ Cq,Cz (bG r s).1 Cq k n:=by
 obtain⟨a1,a2,a3,a4⟩:=h.so.write wr
 rcases a4 with ⟨e,f,g⟩|⟨_,e⟩
 case inr=>rw [e];exact⟨Fr,h.less (by omega)⟩
 refine⟨Fr++[f],?_⟩
 obtain⟨hm,e1,e2⟩:=Dt e
 obtain⟨_,_,b3,b4⟩:=h.so.app wr hm
 have hv:=h.so.inv.aj
 have hb:(fu r s).1.body.length≤200:=MR hv hm
 have hok:=(Ah (r:=r) (v:=s.2.l.m.aj) (oK wr hv hm).1).1
 have hk:(fu r s).1.kind < 256:=hok.kind
 have mr:s.2.l.m.aj≤255:=by have:=hv;unfold dQ at this;simp at this;omega
 have hp:gq (fu r s).1.kind s.2.l.m.aj (fu r s).1.body.length=0:=by
  unfold gq
  rw [if_neg (by omega),if_neg (by omega)]
 have hr:Rm s.1 (200000+600 * n+278+(16+(fu r s).1.body.length)) (2 * n+2):=h.rm.le (by omega) (by omega)
 have c1:=Dm (h.so.inv.EN h.so.loose) h.so.loose _ _ hr (by have:=h.aa;omega) (by have:=h.next;omega) hp
 have c2:=Jh (h.so.inv.EN h.so.loose) h.so.loose _ _ hr (by have:=h.aa;omega) (by have:=h.next;omega) hp h.only
 refine⟨g,by rw [e1];exact c1.2.1,?_,?_,by rw [e1,e2];exact c2⟩
 ·rw [e2];have:=h.aa;omega
 ·rw [e2];have:=h.next;omega
theorem Cz.start {v:Int} (hv:1≤v∧v≤3) (size:Int):∃ s:SD,createS v size (jF 300000)=(s.1,some s.2,0)∧Cz s [] 0 61∧s.2.st=aJ∧s.2.sure=aJ∧(s.2.l.m.aj:Int)=v∧s.2.l.size=sized size:=by
 obtain⟨s,h1,h2,h3,h4,h5,h6⟩:=rD.start hv size 300000 61 (by omega) (by omega)
 have hr:Rm (jF 300000) (200000+600 * 61+278) (2 * 61+2):=⟨rfl,by decide,by decide,by decide⟩
 obtain⟨d',g1,g2,g3⟩:=Dn (d:=jF 300000) (B:=200000+600 * 61) (n:=2 * 61) (wo _) hr rfl (v:=v.toNat) (by omega) size
 have QA:(v.toNat:Int)=v:=by omega
 rw [QA] at g1
 have h1':createS v size (jF 300000)=(d',some ⟨⟨sized size,firstM v.toNat,false⟩,aJ,aJ⟩,0):=by unfold createS;rw [g1]
 have e:=h1.symm.trans h1'
 have e1:s.1=d':=congrArg Prod.fst e
 have e2:s.2=⟨⟨sized size,firstM v.toNat,false⟩,aJ,aJ⟩:=Option.some.inj (congrArg (fun x=>x.2.1) e)
 refine⟨s,h1,⟨h2,by rw [e1];exact g3,by rw [e2];exact Nat.le_refl _,by rw [e2];exact Nat.le_refl _,?_⟩,h3,h4,h5,h6⟩
 rw [e1,e2]
 have ho:Only (jF 300000) (Mine []):=fun n hn=>absurd rfl hn
 have hb:=Ci (wo 300000) (s:=1) (by omega) (hr.le (Nat.le_refl _) (by omega):Rm _ (200000+600 * 61+278) (2 * 61+1+1)) ho
 obtain⟨b1,b2,b3,b4⟩:=wD (wo 300000) (s:=1) (by omega) (hr.le (Nat.le_refl _) (by omega):Rm _ (200000+600 * 61+278) (2 * 61+1+1))
 unfold cu at g1
 rw [if_neg (by omega),if_neg (by decide)] at g1
 simp only at g1
 generalize dK 1 (jF 300000)=r1 at *
 rw [aV b1] at g1
 obtain⟨j,j1,_,_⟩:=b4
 obtain⟨c1,c2,c3⟩:=mK b3 b2 j1
 have c4:=gU b3 (ai 1)
 have c5:=nL hb (ai 1)
 generalize aW r1.1 (ai 1)=r2 at *
 rw [aV c1] at g1
 have hm:fM (firstM v.toNat)=true:=bH.2 ⟨⟨by show 1≤v.toNat;omega,by show v.toNat≤3;omega,Nat.le_refl _,by show 1≤64;omega,by show 1≤2;omega,by show 2≤1000000;omega⟩,by show upB 2 0 [1]=true;decide⟩
 have c6:Only r2.1 (Mine (firstM v.toNat).aa):=c5.mono (fun x hx=>by
  rcases hx with (hx | ⟨s,hs,_⟩) | hx
  ·exact Or.inl hx
  ·cases hs
  ·exact Or.inr ⟨1,by simp [firstM],hx⟩)
 have c7:=tL c4 hm c2 c6 (Or.inl rfl)
 have e3:(aK (firstM v.toNat) r2.1).1=d':=by
  split at g1
  ·exact absurd (congrArg (fun x=>x.2.1) g1) (by simp)
  ·exact congrArg Prod.fst g1
 rw [← e3];exact c7
structure oH (k z:Nat) (v:Int) (s:SD):Prop where
 su:uz 61 k z s
 aj:(s.2.l.m.aj:Int)=v
 fmt:pg v s.2.st
 nt:∃ Fr kk,Cz s Fr kk (61 - k)
theorem oH.fi {k z:Nat} {v:Int} {s:SD} (h:oH k z v s):Gm k z v s:=⟨h.su,h.aj,h.fmt⟩
theorem oH.write {k z:Nat} {v:Int} {s:SD} (h:oH k z v s) (hk:k < 61) {r:Rec} (wr:mQ r):oH (k+1) z v (bG r s).1:=by
 have h1:=h.fi.write hk wr
 obtain⟨Fr,kk,g⟩:=h.nt
 rw [show 61 - k=(61 - (k+1))+1 by omega] at g
 obtain⟨Cq,g'⟩:=g.write wr
 exact⟨h1.su,h1.aj,h1.fmt,Cq,kk,g'⟩
theorem oH.more {k z:Nat} {v:Int} {s:SD} (h:oH k z v s):oH (k+1) z v s:=by
 obtain⟨Fr,kk,g⟩:=h.nt
 exact⟨h.su.more,h.aj,h.fmt,Fr,kk,g.less (by omega)⟩
theorem oH.to {k z:Nat} {v:Int} {s:SD} (h:oH k z v s):∀ {j:Nat},k≤j→oH j z v s
 | 0,hj=>by
  have e:k=0:=Nat.le_zero.1 hj
  subst e
  exact h
 | j+1,hj=>by
  by_cases e:k=j+1
  ·subst e;exact h
  ·exact (h.to (by omega)).more
theorem oH.start {v:Int} (hv:1≤v∧v≤3) (size:Int):∃ s:SD,createS v size (jF 300000)=(s.1,some s.2,0)∧oH 0 (sized size) v s:=by
 obtain⟨s,h1,h2⟩:=Gm.start hv size
 obtain⟨s',g1,g2,_⟩:=Cz.start hv size
 have e:=h1.symm.trans g1
 obtain⟨e1,e4⟩:=Prod.mk.inj e
 have e2:s.2=s'.2:=Option.some.inj (Prod.mk.inj e4).1
 have e3:s=s':=Prod.ext e1 e2
 subst e3
 exact⟨s,h1,h2.su,h2.aj,h2.fmt,[],0,g2⟩
section
variable {W w:World} {R:List az}
def Jk (sb lb bd dz n z:Nat) (v:Int) (W:World) (R:List az) (i:Value) (wr:World):Prop:=
 ∃ (k:Nat) (s:SD),k≤n∧i=.int .i64 k∧oH (min k 60) z v s∧In [] W wr (oG sb lb bd dz s R)
def YL (z:Nat) (v:Int) (W:World) (R:List az) (e:Ending) (w':World):Prop:=
 ∃ sb lb bd dz s,e=.returned (.tuple #[aD bd,pR sb])∧oH 60 z v s∧In [] W w' (oG sb lb bd dz s R)
theorem Ec {v:Value} {cs:List oL} {aj:Int} (mr:1≤aj∧aj≤3) (size:Int) (h:In [] W w R) (hv:nM W v cs) :
  Calls Tryz.prog 56 #[.int .i64 aj,.int .i64 size,v] w (YL (sized size) aj W R):=by
 obtain⟨a,cap,rfl,hc1,hc2,hcn,hc⟩:=hv.ex
 have HC:=Lib.hid hc
 unfold maxLen at hc2
 have KN:=Lib.hid (QZ h 300000 (by omega) (by omega))
 obtain⟨s0,hc0,hst⟩:=oH.start mr size
 have KC:Hid (∀ bd w',In [] W w' (bJ bd (jF 300000)::R)→Calls Tryz.prog 30 #[aD bd,.int .i64 aj,.int .i64 size] w' (kD bd (s0.1,some s0.2,0) [] W R)):=Lib.hid (fun bd w' h'=>by
  have:=o_socreate h' (by decide) aj size
  rw [hc0] at this;exact this)
 have HST:=Lib.hid hst
 clear h hv hc hcn hc0 hst
 go_enter Tryz.func56,Tryz.ntmps56
 go_wp2_with fail
 refine KN.out.mono ?_
 rintro e w2 ⟨bd,rfl,g2⟩
 have C1:=Lib.hid (KC.out bd w2 g2)
 clear g2 KN KC
 go_wp2_with fail
 refine C1.out.mono ?_
 intro e w3 hp
 obtain⟨sb,lb,dz,rfl,g3⟩:=hp.some rfl
 have HR:Hid (Jk sb lb bd dz cs.length (sized size) aj W R (.int .i64 0) w3):=Lib.hid ⟨0,s0,Nat.zero_le _,rfl,HST.out,g3⟩
 clear hp C1 g3 HST
 go_wp2_with fail
 go_loopw [29] (Jk sb lb bd dz cs.length (sized size) aj W R) (fun i _=>cs.length - (intOf i).toNat)
 case atStart=>exact HR.out
 case round=>
  obtain⟨k,s,hk,rfl,hst,ho⟩:=hrel
  clear HR
  by_cases hlt:k < cs.length
  ·obtain⟨x,hx⟩:∃ x,cs[k]?=some x:=⟨cs[k],List.getElem?_eq_getElem hlt⟩
   obtain⟨g,o,csx,rfl,hcr,hcell⟩:=HC.out k x hx
   obtain⟨ab,cb,ar,cr,ap,cp,rfl,hsrc,hnn,hbl,hwf,hvr,_,hrl⟩:=Ug hcr
   have hlt':(k:Int) < (cs.length:Int):=by omega
   have hw2:wrap64 ((k:Int)+1)=(k:Int)+1:=by unfold wrap64;omega
   have HRG:=Lib.hid (Nk ho hcell)
   obtain⟨hth,h4⟩:=PO ho x ab cb ar cr ap cp
   have HTH:=Lib.hid hth
   obtain⟨w4,hw4⟩:∃ w4,w4=(wr.alloc (.cells GQ 72)).setCells wr.heap.size 0 (rT x ab cb ar cr ap cp).toArray.toList:=⟨_,rfl⟩
   rw [← hw4] at h4
   unfold maxLen at hbl
   have H5:=Lib.hid h4.drop
   have c12:w4.cell? ⟨wr.heap.size,12,none⟩=some (.slice ab x.r.ax.length cb):=cell_of (h4.block 0 rfl) PN
   have WO:=Lib.hid (JH (h4.block 0 rfl))
   have HW4:=Lib.hid hw4
   have HST:=Lib.hid hst
   have HM:=Lib.hid (dV hlt')
   have HK:Hid (k+1≤cs.length):=Lib.hid hlt
   have Qp:=Lib.hid hsrc
   have HNN:=Lib.hid hnn
   have Vm:=Lib.hid hwf
   have OA:Hid (s.1.ops≤5000):=Lib.hid (by have:=hst.su.ops;omega)
   have HLG:=Lib.hid (hst.su.VI (Cf size))
   clear ho h4 hvr hx hlt hcell hcr hw4 hth hsrc hnn hwf hst hrl hk
   go_upto_region 7 with fail
   go_cut [11,12] (fun x11 x12 wx=>x11=.int .i64 k∧x12=.pointer (some ⟨wr.heap.size,0,none⟩)∧wx=w4)
   case first=>
    go_wp2_with (first | (refine wpList_load_mid (by rfl) 72 (.tmp 32) rfl g (o+k * 18) rfl (rT x ab cb ar cr ap cp) _ HRG.out Tryz.underlying72 rfl (by kernel_rfl) ?_) | (refine wpList_store_mid (by rfl) 72 (.tmp 12) (.tmp 33) rfl wr.heap.size 0 (rT x ab cb ar cr ap cp).toArray (by rfl) (by rfl) HTH.out (by kernel_rfl) Ni ?_))
    go_meet
    exact⟨rfl,rfl,HW4.out.symm⟩
   case rest=>
   obtain⟨rfl,rfl,rfl⟩:=hcut
   clear HRG HTH HW4
   generalize wr.heap.size=fb at *
   by_cases q1:k < 60
   case neg=>
    have q1':decide ((k:Int) < 60)=false:=decide_eq_false (by omega)
    have HR:Hid (Jk sb lb bd dz cs.length (sized size) aj W R (.int .i64 ((k:Int)+1)) wc):=Lib.hid ⟨k+1,s,HK.out,by rw [Int.natCast_add];rfl,HST.out.to (by omega),H5.out⟩
    clear q1 H5 HST
    go_wp2_with fail
    go_roundw
    case rel=>(try rw [hw2]);exact HR.out
    case measure=>(try rw [hw2]);exact HM.out
   have q1':(k:Int) < 60:=by omega
   by_cases q2:x.r.ax.length≤40
   case neg=>
    have q2':decide ((x.r.ax.length:Int)≤40)=false:=decide_eq_false (by omega)
    have HR:Hid (Jk sb lb bd dz cs.length (sized size) aj W R (.int .i64 ((k:Int)+1)) wc):=Lib.hid ⟨k+1,s,HK.out,by rw [Int.natCast_add];rfl,HST.out.to (by omega),H5.out⟩
    clear q1 q2 H5 HST
    go_wp2_with fail
    go_roundw
    case rel=>(try rw [hw2]);exact HR.out
    case measure=>(try rw [hw2]);exact HM.out
   have q2':(x.r.ax.length:Int)≤40:=by omega
   have KW:=Lib.hid (uq (r:=x.r) (A:=ab) (c:=cb) HLG.out (by have:=OA.out;omega) (fun w' h'=>Qp.out.old h') HNN.out (by omega) Vm.out.rr H5.out)
   have HN:Hid (oH (min (k+1) 60) (sized size) aj (bG x.r s).1):=Lib.hid (by
    have h1:=HST.out
    rw [Nat.min_eq_left (by omega)] at h1
    rw [Nat.min_eq_left (by omega)]
    exact h1.write (by omega) Vm.out.rr)
   clear HST H5 q1 q2
   go_wp2_with (refine wpList_load_mid (by rfl) 69 (.tmp 44) rfl fb 2 rfl (Nh x.r ab cb) _ WO.out Tryz.underlying69 rfl (by kernel_rfl) ?_)
   refine KW.out.mono ?_
   rintro e w5 ⟨rfl,g5⟩
   have HR:Hid (Jk sb lb bd dz cs.length (sized size) aj W R (.int .i64 ((k:Int)+1)) w5):=Lib.hid ⟨k+1,_,HK.out,by rw [Int.natCast_add];rfl,HN.out,g5⟩
   clear g5 KW WO c12 HN
   go_wp2_with fail
   go_roundw
   case rel=>(try rw [hw2]);exact HR.out
   case measure=>(try rw [hw2]);exact HM.out
  ·have hge:(cs.length:Int)≤(k:Int):=by omega
   have G:=Lib.hid (oH.to hst (show min k 60≤60 by omega))
   have GO:=Lib.hid ho
   clear ho hlt hk hst
   go_wp2_with fail
   go_ret2
   exact⟨sb,lb,bd,dz,s,rfl,G.out,GO.out⟩
end
def cs0:ae×Option pK×Int:=createS 1 200 (jF 5000)
def Zb:SD:=(cs0.1,cs0.2.1.getD default)
def rA:Rec:=⟨1,⟨⟨0,0,6,0,0⟩,3,0,0⟩,0,[],0,0,0⟩
def rB:Rec:=⟨2,⟨⟨0,0,6,0,0⟩,3,0,0⟩,0,[],0,0,0⟩
def cs1:SD×Int:=bG rA Zb
def cs2:SD×Int:=bG rB cs1.1
def Zc:SD×Int:=dx cs2.1.2.l.m.aj cs2.1.2.st cs2.1
theorem Tw:cs0.2.1.isSome=true∧cs0.2.2=0∧Zc.2=0∧jX (Zc.1.1,Zc.1.2.l)=21∧DU Zb.2.l=true∧DU cs1.1.2.l=true∧DU cs2.1.2.l=true∧DU Zc.1.2.l=true∧Zb.1.ops≤1000∧cs1.1.1.ops≤1000∧cs2.1.1.ops≤1000:=by decide +kernel
theorem WS:mQ rA:=⟨by constructor <;> decide,by simp [rA]⟩
theorem WT:mQ rB:=⟨by constructor <;> decide,by simp [rB]⟩
theorem rD.WU {s:SD} {Fr:List cB} {k n:Nat} (h:rD s Fr k (n+1)) {r:Rec} (wr:mQ r):∃ Cq,rD (bG r s).1 Cq k n:=by
 rcases (h.write wr).2.2.2 with ⟨_,f,g⟩|⟨_,g⟩
 ·exact⟨_,g⟩
 ·rw [g];exact⟨Fr,h.less (Nat.le_succ n)⟩
theorem YM:∃ Fr k,gW cs2.1.1 cs2.1.2.l Fr k Fr k:=by
 obtain⟨s,h1,h2,_⟩:=rD.start (v:=1) (by omega) 200 5000 3 (by omega) (by omega)
 have e:s=Zb:=by
  show s=(cs0.1,cs0.2.1.getD default)
  rw [show cs0=(s.1,some s.2,0) from h1];rfl
 subst e
 obtain⟨F1,g1⟩:=h2.WU WS
 obtain⟨F2,g2⟩:=rD.WU (s:=cs1.1) g1 WT
 exact⟨F2,0,g2.inv.log⟩
section
variable {F0:List Nat} {w0 w:World} {R:List az} {sb lb bd dz:Nat}
theorem qK {s:SD} (hl:gH s.2.l) (h:In F0 w0 w (oG sb lb bd dz s R)):Calls Tryz.prog 57 #[pR sb] w fun e w'=>e=.returned (.int .i64 (jX (s.1,s.2.l)))∧In F0 w0 w' (oG sb lb bd dz s R):=by
 obtain⟨A,a,D,d,F,f,g0⟩:=h.rH
 have c0:w.cell? ⟨sb,0,none⟩=some (aD lb):=cell_of (g0.block 0 rfl) rfl
 have K:=Lib.hid (SI hl (h.aI (R1:=[_,_,_,_]) [1,2,0,3] (by decide) rfl))
 clear h g0
 go_enter Tryz.func57,Tryz.ntmps57
 go_wp2_with fail
 refine K.out.mono ?_
 rintro e w1 ⟨rfl,g⟩
 have G:=Lib.hid (g.aI (R1:=[_,_,_,_]) [2,0,1,3] (by decide) rfl)
 clear g K c0
 go_wp2_with fail
 go_ret
 exact⟨rfl,G.out⟩
theorem YN {W:World} {g:Nat} (h:W.heap[g]?=some (.cells #[.int .u32 0,.int .u32 0,.int .i64 6,.int .i64 0,.int .i64 0,.int .i64 3,.int .i64 0,.int .i64 0] 67 (0,0))):W.cell? ⟨g,0,none⟩=some (.int .u32 0)∧W.cell? ⟨g,1,none⟩=some (.int .u32 0)∧W.cell? ⟨g,2,none⟩=some (.int .i64 6)∧W.cell? ⟨g,3,none⟩=some (.int .i64 0)∧W.cell? ⟨g,4,none⟩=some (.int .i64 0)∧W.cell? ⟨g,5,none⟩=some (.int .i64 3)∧W.cell? ⟨g,6,none⟩=some (.int .i64 0)∧W.cell? ⟨g,7,none⟩=some (.int .i64 0):=
 ⟨cell_of h rfl,cell_of h rfl,cell_of h rfl,cell_of h rfl,cell_of h rfl,cell_of h rfl,cell_of h rfl,cell_of h rfl⟩
theorem Ed (h:In F0 w0 w R):Calls Tryz.prog 51 #[] w fun e w'=>e=.returned (.bool true)∧In F0 w0 w' R:=by
 obtain⟨f1,f2,f3,f4,l0,l1,l2,l3,o0,o1,o2⟩:=Tw
 obtain⟨Fr,kk,hinv⟩:=YM
 have K0:=Lib.hid (QZ h 5000 (by omega) (by omega))
 have K1:=Lib.hid (fun bd w' (h':In F0 w0 w' (bJ bd (jF 5000)::R))=>o_socreate h' (by decide) 1 200)
 have K2:=Lib.hid (fun sb lb bd dz w' (R':List az) (h':In F0 w0 w' (oG sb lb bd dz Zb R'))=>uq (A:=none) (c:=0) (r:=rA) (xm l0) (by omega) (fun _ _=>Src.nil _ _ _) (fun _=>rfl) (by decide) WS h')
 have K3:=Lib.hid (fun sb lb bd dz w' (R':List az) (h':In F0 w0 w' (oG sb lb bd dz cs1.1 R'))=>uq (A:=none) (c:=0) (r:=rB) (xm l1) (by omega) (fun _ _=>Src.nil _ _ _) (fun _=>rfl) (by decide) WT h')
 have K4:=Lib.hid (fun sb lb bd dz w' (R':List az) (h':In F0 w0 w' (oG sb lb bd dz cs2.1 R'))=>Gn (xm l2) hinv (by omega) h')
 have K5:=Lib.hid (fun sb lb bd dz w' (R':List az) (h':In F0 w0 w' (oG sb lb bd dz Zc.1 R'))=>qK (xm l3) h')
 have zm:Hid (cs0.2.1=some Zb.2):=Lib.hid (by
  show _=some (cs0.2.1.getD default)
  cases e:cs0.2.1 with
  | none=>rw [e] at f1;cases f1
  | some l=>rfl)
 have E0:=Lib.hid f2
 have E3:=Lib.hid f3
 have E4:=Lib.hid f4
 clear h f1 f2 f3 f4 l0 l1 l2 l3 o0 o1 o2 hinv
 go_enter Tryz.func51,Tryz.ntmps51
 go_wp2_with fail
 refine K0.out.mono ?_
 rintro e w1 ⟨bd,rfl,g1⟩
 have C1:=Lib.hid (K1.out bd w1 g1)
 clear g1 K0 K1
 go_wp2_with fail
 refine C1.out.mono ?_
 intro e w2 hp
 obtain⟨sb,lb,dz,rfl,g2⟩:=hp.some zm.out
 rw [show createS 1 200 (jF 5000)=cs0 from rfl,E0.out]
 have g3:=(g2.cells #[.int .u32 0,.int .u32 0,.int .i64 6,.int .i64 0,.int .i64 0,.int .i64 3,.int .i64 0,.int .i64 0] 67).aI (R1:=[_,_,_,_,_]) [1,2,3,4,0] (by decide) rfl
 have C2:=Lib.hid (K2.out sb lb bd dz _ _ g3)
 clear g2 g3 hp C1 K2
 go_wp2_with fail
 refine C2.out.mono ?_
 rintro e w3 ⟨rfl,g4⟩
 obtain⟨d0,d1,d2,d3,d4,d5,d6,d7⟩:=YN (g4.block 4 rfl)
 have C3:=Lib.hid (K3.out sb lb bd dz _ _ g4)
 clear g4 C2 K3
 go_wp2_with fail
 refine C3.out.mono ?_
 rintro e w4 ⟨rfl,g5⟩
 have C4:=Lib.hid (K4.out sb lb bd dz _ _ g5)
 clear g5 C3 K4 d0 d1 d2 d3 d4 d5 d6 d7
 go_wp2_with fail
 refine C4.out.mono ?_
 rintro e w5 ⟨Tq,rfl,g6⟩
 rw [show dx cs2.1.2.l.m.aj cs2.1.2.st cs2.1=Zc from rfl,E3.out]
 have C5:=Lib.hid (K5.out sb lb bd Tq _ _ g6)
 clear g6 C4 K5
 go_wp2_with fail
 refine C5.out.mono ?_
 rintro e w6 ⟨rfl,g7⟩
 rw [E4.out]
 have G:=Lib.hid (g7.aI (R1:=[_,_,_,_,_]) [] (by decide) rfl)
 clear g7 C5
 go_wp2_with fail
 go_ret
 exact⟨rfl,G.out⟩
end
theorem iF.VI {s:SD} {Fr lq:List cB} {k k0 z:Nat} (h:iF s Fr k lq k0) (hs:s.2.l.size=z) (hz:16≤z∧z≤1048576):gH s.2.l:=⟨by rw [hs];exact hz.1,by rw [hs];exact hz.2,h.log.now.1⟩
theorem iD {t:fP} (h:fU t):t.ax.length≤1000000∧t.bN.length≤1000000∧t.bU.length≤1000000:=by
 obtain⟨h1,h2,h3⟩:=h.lens
 exact⟨by omega,by omega,by omega⟩
theorem yD {d:ae} (h:d.fail=0) (n:ByteArray) (b:List UInt8):(aH d n b).1.fail=0:=by
 rcases fE d n b with ⟨e,h1,_⟩|⟨_,_,_,⟨i,_,h1⟩|⟨_,h1⟩⟩ <;> (rw [h1];exact fK h)
theorem zV {d:ae} (h:d.fail=0) (n:ByteArray):(aW d n).1.fail=0:=by
 rcases iJ d n with ⟨e,h1,_⟩|⟨_,i,_,h1⟩ <;> (rw [h1];exact fK h)
theorem Tx {d:ae} (h:d.fail=0):(bE d).1.fail=0:=by
 rcases gz d with h1 | ⟨_,h1⟩ <;> (rw [h1];exact fK h)
theorem OT {d:ae} (h:d.fail=0) (n:ByteArray):(cZ d n).1.fail=0:=by
 rcases kz d n with ⟨e,h1,_⟩|⟨_,_,h1⟩ <;> (rw [h1];exact fK h)
theorem OU {d:ae} (h:d.fail=0) (a b:ByteArray):(bZ d a b).1.fail=0:=by
 rcases jr d a b with ⟨e,h1,_⟩|⟨_,_,_,⟨_,h1⟩|⟨_,h1⟩⟩ <;> (rw [h1];exact fK h)
theorem Jl {d:ae} (h:d.fail=0) (n:ByteArray):(bF n d).1.fail=0:=by
 unfold bF
 split
 ·exact OT h n
 ·exact h
theorem OV {d:ae} (h:d.fail=0) (m:dw):(aK m d).1.fail=0:=by
 have h1:(eQ m d).1.fail=0:=gm (P:=fun d:ae=>d.fail=0) (gm (P:=fun d:ae=>d.fail=0) (gm (P:=fun d:ae=>d.fail=0) (Jl h aB) (fun s hs=>yD hs _ _)) (fun s hs=>zV hs _)) (fun s hs=>OU hs _ _)
 unfold aK
 split
 ·exact h
 ·split
  ·exact h1
  ·exact Tx h1
theorem Ty {d:ae} (h:d.fail=0) (s:Nat):(dK s d).1.fail=0:=gm (P:=fun d:ae=>d.fail=0) (Jl h _) (fun s hs=>yD hs _ _)
theorem Ee {s:DL} (h:s.1.fail=0):(aY s).1.1.fail=0:=by
 unfold aY
 split
 ·exact Tx h
 ·exact h
theorem VZ {s:DL} (h:s.1.fail=0):(gD s).1.1.fail=0:=by
 unfold gD
 split
 ·exact h
 ·exact gm (P:=fun s:DL=>s.1.fail=0) (gm (P:=fun s:DL=>s.1.fail=0) (gm (P:=fun s:DL=>s.1.fail=0) (zV h _) (fun s hs=>Ty hs _)) (fun s hs=>zV hs _)) (fun s hs=>OV hs _)
theorem LD {s:DL} (h:s.1.fail=0) (kind:Int) (body:List UInt8):(bW kind body s).1.1.fail=0:=by
 unfold bW
 split
 ·exact h
 ·refine gm (P:=fun s:DL=>s.1.fail=0) (gm (P:=fun s:DL=>s.1.fail=0) (Ee h) (fun s hs=>?_)) (fun s hs=>yD hs _ _)
  split
  ·exact hs
  ·exact VZ hs
theorem Tz {s:DL} (h:s.1.fail=0):(fw s).1.1.fail=0:=gm (P:=fun s:DL=>s.1.fail=0) (Ee h) (fun s hs=>zV hs _)
theorem OW {s:SD} (h:s.1.fail=0) (r:Rec):(bG r s).1.1.fail=0:=by
 have h1:(eT r s).1.1.fail=0:=LD h _ _
 unfold bG
 repeat' split
 all_goals first | exact h | exact h1
theorem TA {s:SD} (h:s.1.fail=0):(iN s).1.1.fail=0:=Tz h
theorem OX {d:ae} {l:bK} {Fr:List cB} {s:Nat} (h:fD d l.m Fr s) (hl:l.loose=false) (hf:d.fail=0):(fw (d,l)).2=0:=by
 have hset:aY (d,l)=((d,l),0):=by unfold aY;simp [hl]
 obtain⟨C,L,k,g1,_,g3⟩:=h.now.2.2
 obtain⟨i,i1,_,_⟩:=g1.last
 rw [← jL g1.len] at i1
 unfold fw
 rw [hset,aV (r:=((d,l),(0:Int))) rfl]
 show (aW d (bA l)).2=0
 rw [sM hf i1]
theorem xx {s:SD} {Fr:List cB} {k:Nat} {lq:List cB} {k0:Nat} (h:iF s Fr k lq k0) (hf:s.1.fail=0) (size:Int):∃ d' l,nW 3 size s.1=(d',some ⟨l,s.2.st,s.2.st⟩,0):=by
 have hn:Holds s.1.now s.1.files s.2.l.m Fr k:=by
  rcases h.log with ⟨_,g⟩|⟨_,g⟩ <;> exact g.now
 have hv:=(bH.1 hn.1).1
 obtain⟨d',e,_⟩:=Mf (hn.on h.log.ok) hf h.st h.ok size (aj:=3) ⟨by omega,by omega⟩
 exact⟨d',_,e⟩
structure xy (z:Nat) (v:Int) (B n x:Nat) (s:SD):Prop where
 inv:∃ Fr k,iF s Fr k Fr k
 loose:s.2.l.loose=false
 rm:Rm s.1 B n
 only:Only s.1 (Mine s.2.l.m.aa)
 size:s.2.l.size=z
 aj:(s.2.l.m.aj:Int)=v
 fmt:pg v s.2.st
 next:s.2.l.m.next≤x
def Jm (z:Nat) (v:Int) (st:fP):Nat:=(vL z ((cK v st).map ak) (0,0)).1
theorem join_le {c:Nat}:∀ {R:List cB},(∀ f∈R,(ak f).length≤c)→(aN R).length≤c * R.length
 | [],_=>Nat.zero_le _
 | f::R,h=>by
  have h1:=join_le (R:=R) (fun g hg=>h g (List.mem_cons_of_mem _ hg))
  have h2:=h f (by simp)
  have e:(aN (f::R)).length=(ak f).length+(aN R).length:=by simp [aN]
  rw [e,List.length_cons,Nat.mul_add]
  omega
theorem xz {st:fP} (h:fU st) {v:Int} (hv:dQ v=true):(aN (cK v st)).length≤60000:=by
 have h1:(aN (cK v st)).length≤216 * (cK v st).length:=join_le (fun f hf=>by
  obtain⟨r,hr,rfl⟩:=List.mem_map.1 hf
  obtain⟨w1,w2,w3⟩:=mQ.recs h r hr
  have:=MR hv w2
  rw [dD];omega)
 have h2:(cK v st).length≤273:=by unfold cK;rw [List.length_map];exact nO h
 omega
theorem xy.swap {z:Nat} {v:Int} {B n x:Nat} {s:SD} (h:xy z v (B+60278) (n+65) x s) (hx:x+64≤1000000) :
  (dx v s.2.st s).1.2.st=s.2.st ∧
  (((dx v s.2.st s).2=0∧Jm z v s.2.st≤64∧xy z v B n (x+64) (dx v s.2.st s).1∧(dx v s.2.st s).1.2.sure=s.2.st∧(dx v s.2.st s).1.2.l.m.aa.length=Jm z v s.2.st∧jX ((dx v s.2.st s).1.1,(dx v s.2.st s).1.2.l)=(aN (cK v s.2.st)).length) ∨
    ((dx v s.2.st s).2=4∧64 < Jm z v s.2.st)):=by
 obtain⟨⟨Fr,k,hi⟩,hl,hr,ho,hz,mr,hf,hn⟩:=h
 have hvk:=hi.aj
 have abC:=hvk
 rw [mr] at hvk
 have hv3:=hvk
 unfold dQ at hv3
 simp only [decide_eq_true_eq] at hv3
 obtain⟨a1,a2⟩:=hi.swap (v:=v) hi.ok ⟨by omega,hv3.2⟩
 rw [hf.eq] at a2
 have hne:cK v s.2.st≠[]:=by unfold cK aM;simp
 have hlen:=xz hi.ok hvk
 have QA:v.toNat=s.2.l.m.aj:=by omega
 have b:=VX (B:=B) (n:=n) (hi.EN hl) hl ho (aj:=v.toNat) (by omega) (rows_ok hi.ok hvk) hne (hr.le (by omega) (Nat.le_refl _)) (by omega)
 rw [show gM v.toNat ((cK v s.2.st).map ak) (s.1,s.2.l)=gV v s.2.st s from rfl,hz] at b
 have e1:(dx v s.2.st s).2=(gV v s.2.st s).2∧(dx v s.2.st s).1.1=(gV v s.2.st s).1.1∧(dx v s.2.st s).1.2.l=(gV v s.2.st s).1.2:=by
  unfold dx
  rw [if_neg (by omega)]
  exact⟨rfl,rfl,rfl⟩
 obtain⟨e1,e2,e3⟩:=e1
 refine⟨?_,?_⟩
 ·rcases a2 with ⟨_,_,_,_,_,g⟩|⟨_,_,⟨_,g,_⟩|⟨_,g,_⟩⟩ <;> exact g
 rcases b with b | ⟨b1,b2⟩
 case inr=>exact Or.inr ⟨by rw [e1];exact b1,b2⟩
 left
 obtain⟨b1,b2,b3,b4,b5,b6⟩:=b
 rcases a2 with ⟨_,g1,g2,g3,g4,g5⟩|⟨g,_⟩
 case inr=>exact absurd (e1.trans b1) g
 refine⟨e1.trans b1,b6,⟨⟨_,_,g4⟩,g1,by rw [e2];exact b2,by rw [e2,e3];exact b3,by rw [a1];exact hz,g2,by rw [g5];exact hf,?_⟩,g3,by rw [e3];exact b4,?_⟩
 ·rw [e3,b5]
  have:(vL z ((cK v s.2.st).map ak) (0,0)).1≤64:=b6
  show s.2.l.m.next+(vL z ((cK v s.2.st).map ak) (0,0)).1≤x+64
  omega
 ·exact VY (g4.EN g1)
theorem oH.cp {z:Nat} {v:Int} {s:SD} (h:oH 60 z v s):xy z v 200000 138 62 s:=by
 obtain⟨Fr,kk,g⟩:=h.nt
 have hn:=Eb (g.so.inv.EN g.so.loose) g.only
 have hs:=g.aa
 have hx:=g.next
 refine⟨⟨Fr,kk,g.so.inv⟩,g.so.loose,⟨g.rm.fail,?_,?_,g.rm.small⟩,g.only,h.su.size,h.aj,h.fmt,by omega⟩
 ·have:=g.rm.bytes;omega
 ·omega
theorem again {z:Nat} {v:Int} {B n x:Nat} {s:SD} (h:xy z v (B+60278) (n+65) x s) (hx:x+64≤1000000) (h0:(dx v s.2.st s).2=0∨Jm z v s.2.st≤64):xy z v B n (x+64) (dx v s.2.st s).1∧(dx v s.2.st s).2=0∧(dx v s.2.st s).1.2.st=s.2.st∧Jm z v s.2.st≤64∧jX ((dx v s.2.st s).1.1,(dx v s.2.st s).1.2.l)=(aN (cK v s.2.st)).length:=by
 obtain⟨a1,⟨b1,b2,b3,b4,b5,b6⟩|⟨b1,b2⟩⟩:=h.swap hx
 ·exact⟨b3,b1,a1,b2,b6⟩
 ·rcases h0 with h0 | h0
  ·rw [h0] at b1;cases b1
  ·omega
theorem xy.then {z:Nat} {v:Int} {B n x:Nat} {s:SD} (h:xy z v B n x s) {r:Rec} (wr:mQ r) (size:Int) :
  fU (bG r s).1.2.st∧(∃ Fr k,iF (bG r s).1 Fr k Fr k)∧(bG r s).1.2.l.size=z∧(∃ d' l,nW 3 size (bG r s).1.1=(d',some ⟨l,(bG r s).1.2.st,(bG r s).1.2.st⟩,0)) ∧
  ((bG r s).2=0→(iN (bG r s).1).2=0∧(iN (bG r s).1).1.2.st=(bG r s).1.2.st∧∃ d' l,nW 3 size (iN (bG r s).1).1.1=(d',some ⟨l,(bG r s).1.2.st,(bG r s).1.2.st⟩,0)):=by
 obtain⟨Fr,k,hi⟩:=h.inv
 obtain⟨a1,a2,a3,a4⟩:=hi.write wr
 have hf:=OW h.rm.fail r
 rcases a4 with ⟨e,f,g1,g2⟩|⟨e,e2,g⟩
 ·refine⟨g1.ok,⟨_,_,g1⟩,by rw [a1];exact h.size,xx g1 hf size,fun _=>?_⟩
  have hs:(iN (bG r s).1).2=0:=OX (g1.EN g2) g2 hf
  obtain⟨b1,b2,b3,b4⟩:=g1.sync
  rcases b4 with ⟨_,_,_,c4⟩|⟨c1,_⟩
  ·obtain⟨d',l,e3⟩:=xx c4 (TA hf) size
   rw [b3] at e3
   exact⟨hs,b3,d',l,e3⟩
  ·exact absurd hs c1
 ·rcases g with g | g
  ·exact⟨g.ok,⟨_,_,g⟩,by rw [a1];exact h.size,xx g hf size,fun h0=>absurd h0 e⟩
  ·exact⟨g.ok,⟨_,_,g⟩,by rw [a1];exact h.size,xx g hf size,fun h0=>absurd h0 e⟩
structure Wd (s:SD) (n:Nat):Prop where
 lg:gH s.2.l
 inv:∃ Fr k,gW s.1 s.2.l Fr k Fr k
 ops:s.1.ops≤n
 ok:fU s.2.st
theorem xy.rdy {z:Nat} {v:Int} {B n x:Nat} {s:SD} (h:xy z v B n x s) (hz:16≤z∧z≤1048576) {m:Nat} (ho:s.1.ops≤m):Wd s m:=by
 obtain⟨Fr,k,g⟩:=h.inv
 exact⟨g.VI h.size hz,⟨Fr,k,g.log⟩,ho,g.ok⟩
def MS (size:Int) (d:ae) (t:fP):Prop:=∃ d' l,nW 3 size d=(d',some ⟨l,t,t⟩,0)
theorem Jn {v:Int} {s:SD} {size:Int} (h:oH 60 (sized size) v s) {r:Rec} (wr:mQ r) :
  Wd s 2200∧∀ s1,s1=(dx s.2.l.m.aj s.2.st s).1→(dx s.2.l.m.aj s.2.st s).2=0 →
  (Wd s1 4200∧(dx s1.2.l.m.aj s1.2.st s1).2=0∧∀ s2,s2=(dx s1.2.l.m.aj s1.2.st s1).1 →
  (Wd s2 6200∧jX (s2.1,s2.2.l)=jX (s1.1,s1.2.l)∧∀ s3,s3=(bG r s2).1 →
  (Wd s3 6300∧MS size s3.1 s3.2.st∧((bG r s2).2=0→(iN s3).2=0∧(iN s3).1.1.ops≤6400∧MS size (iN s3).1.1 s3.2.st)))):=by
 have hz:=Cf size
 have c:=h.cp
 have r0:Wd s 2200:=c.rdy hz (by have:=h.su.ops;omega)
 refine⟨r0,fun s1 e1 h1=>?_⟩
 rw [c.aj] at e1 h1
 have c':xy (sized size) v ((79444:Nat)+60278+60278) (8+65+65) 62 s:=⟨c.inv,c.loose,c.rm.le (by omega) (by omega),c.only,c.size,c.aj,c.fmt,c.next⟩
 obtain⟨a1,a2,a3,a4,a5⟩:=again c' (by omega) (Or.inl h1)
 rw [← e1] at a1 a3 a5
 have hv:dQ (s.2.l.m.aj:Int)=true:=by obtain⟨_,_,g⟩:=c.inv;exact g.aj
 have o1:s1.1.ops≤4200:=by
  have:=yC r0.lg r0.ok hv
  rw [c.aj,← e1] at this
  have:=r0.ops;omega
 have r1:=a1.rdy hz o1
 rw [← a3] at a4 a5
 obtain⟨b1,b2,b3,b4,b5⟩:=again a1 (by omega) (Or.inr a4)
 refine⟨r1,by rw [a1.aj];exact b2,fun s2 e2=>?_⟩
 rw [a1.aj] at e2
 rw [← e2] at b1 b3 b5
 have hv1:dQ (s1.2.l.m.aj:Int)=true:=by obtain⟨_,_,g⟩:=a1.inv;exact g.aj
 have o2:s2.1.ops≤6200:=by
  have:=yC r1.lg r1.ok hv1
  rw [a1.aj,← e2] at this
  omega
 have r2:=b1.rdy hz o2
 refine⟨r2,by rw [b5,a5],fun s3 e3=>?_⟩
 obtain⟨d1,⟨Fr,k,d2⟩,d3,d4,d5⟩:=b1.then wr size
 rw [← e3] at d1 d2 d3 d4 d5
 have o3:s3.1.ops≤6300:=by
  have:=Cg r s2
  rw [← e3] at this;omega
 refine⟨⟨d2.VI d3 hz,⟨Fr,k,d2.log⟩,o3,d1⟩,d4,fun h0=>?_⟩
 obtain⟨f1,f2,f3⟩:=d5 h0
 have:=OD s3
 exact⟨f1,by omega,f3⟩
end Go.Proofs.YtogclkhpbjfadaaGreat
