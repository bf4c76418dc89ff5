/- Parts of the proofs that a compaction keeps what lives, and done again is as once. -/
import Derived.Test.YtogclkhpbjfadaaGreatCK28
import Derived.Test.YtogclkhpbjfadaaGreatCK29
import Derived.Test.YtogclkhpbjfadaaGreatCK23
import Derived.Test.YtogclkhpbjfadaaGreatCK9
namespace Go.Proofs.YtogclkhpbjfadaaGreat
open Go.RowKit
set_option linter.unusedVariables false
set_option maxHeartbeats 64000000
set_option maxRecDepth 100000
section
variable {F0:List Nat} {w0 w:World} {R:List az} {sb lb bd dz:Nat} {v:fP}
theorem rJ.ok (hok:fU v) {e:Ending} {w':World} (h:rJ v F0 w0 R e w'):∃ tb,e=.returned (.tuple #[pR tb,.int .i64 0])∧In F0 w0 w' (iH tb v::R):=by
 unfold rJ at h;rw [LX hok] at h;exact h
def BV (v:fP) (F0:List Nat) (w0:World) (R:List az) (e:Ending) (w':World):Prop:=∃ A a D d F f,e=.returned (Ct v A a D d F f)∧In F0 w0 w' (gG (.slice A v.ax.length a) v.ax::zq (.slice D v.bN.length d) v.bN::BI (.slice F v.bU.length f) v.bU::R)
theorem BX {W:World} {b:Nat} {C:Array Value} {T:TypeId} (h:W.heap[b]?=some (.cells C T (0,0))) (o m:Nat) (hm:o+m≤C.size):W.there b o m:=fun j hj=>by
 refine⟨?_,aL h⟩
 rw [cell_of h (Array.getElem?_eq_getElem (by omega))];rfl
theorem ig {s:fP} (h:In F0 w0 w (iH sb s::R)):Calls Tryz.prog 34 #[pR sb] w (BV s F0 w0 (iH sb s::R)):=BH h
theorem Sv {A D F:Option Addr} {a d f:Nat} (hv:wY F0 w0 R v A D F) (hn:A=none→a=0) (hok:fU v) (h:In F0 w0 w R):Calls Tryz.prog 113 #[Ct v A a D d F f] w (BV v F0 w0 R):=by
 obtain⟨w2,hw2⟩:∃ w2,w2=(w.alloc (.cells #[.int .i64 v.gen,.slice A v.ax.length a,.slice D v.bN.length d,.slice F v.bU.length f] 62)).alloc (.cells #[.int .i64 0,.slice none 0 0,.slice none 0 0,.slice none 0 0] 62):=⟨_,rfl⟩
 have h2:=(h.cells #[.int .i64 v.gen,.slice A v.ax.length a,.slice D v.bN.length d,.slice F v.bU.length f] 62).cells #[.int .i64 0,.slice none 0 0,.slice none 0 0,.slice none 0 0] 62
 simp only [World.size_alloc] at h2
 rw [← hw2] at h2
 obtain⟨l1,l2,l3⟩:=hok.lens
 have K1:=Lib.hid (Sm (a:=a) (d:=d) (f:=f) (hv.oZ [Cells (w.heap.size+1) #[.int .i64 0,.slice none 0 0,.slice none 0 0,.slice none 0 0] 62,Cells w.heap.size #[.int .i64 v.gen,.slice A v.ax.length a,.slice D v.bN.length d,.slice F v.bU.length f] 62]) hn (by omega) (by omega) (by omega) (fun r hr=>(mQ.recs hok r hr).1) h2)
 have HW:=Lib.hid hw2
 have mD:=Lib.hid hok
 have e1:w2.cell? ⟨w.heap.size,0,none⟩=some (.int .i64 v.gen):=cell_of (h2.block 1 rfl) rfl
 clear h h2 hw2 hv hok l1 l2 l3 e1
 go_enter Tryz.func113,Tryz.ntmps113
 go_wp2_with fail
 rw [← HW.out]
 clear HW
 refine K1.out.mono ?_
 intro e w3 hp
 obtain⟨tb,rfl,g3⟩:=hp.ok mD.out
 have K2:=Lib.hid (ig g3)
 clear g3 K1 hp
 go_wp2_with fail
 refine K2.out.mono ?_
 rintro e w4 ⟨A1,a1,D1,d1,F1,f1,rfl,g4⟩
 have Q1:=Lib.hid (fG (g4.block 4 rfl))
 have G:=Lib.hid (g4.gp 4 rfl (xs:=[.int .i64 v.gen,.slice A1 v.ax.length a1,.slice D1 v.bN.length d1,.slice F1 v.bU.length f1]) (b:=w.heap.size+1) (C:=#[.int .i64 0,.slice none 0 0,.slice none 0 0,.slice none 0 0]) (T:=62) rfl)
 clear g4 K2
 go_wp2_with (refine wpList_store_mid (op:=⟨none,Op.store 62 (.tmp 2) (.tmp 13),_,_,_,_⟩) (by rfl) 62 (.tmp 2) (.tmp 13) rfl (w.heap.size+1) 0 #[.int .i64 v.gen,.slice A1 v.ax.length a1,.slice D1 v.bN.length d1,.slice F1 v.bU.length f1] (by rfl) (by rfl) Q1.out (by kernel_rfl) (qG _ _ _ _ _ _ _ _ _ _) ?_)
 exact bodyPost_ret (results_cell_row Tryz.results113 _ _ (w.heap.size+1) 62 _ (0,0) _ rfl (G.out.block 4 rfl) Tryz.underlying62 rfl (by kernel_rfl)) rfl ⟨_,_,_,_,_,_,rfl,G.out.aI (R1:=[_,_,_,_,_,_]) [0,1,2] (by decide) rfl⟩
theorem Sw {T:TypeId} {k n c:Nat} {A:Option Addr} {xs:List Value} (i:Nat) (h:In F0 w0 w R) (hA:R[i]?=some (ay T k (.slice A n c) n xs)):A=none→c=0:=by
 obtain⟨F,r⟩:=h.get i hA
 exact fun e=>ay.Hy r e
theorem Sy (hok:fU v) (h:In F0 w0 w (Sk sb lb dz v::R)):Calls Tryz.prog 36 #[pR sb] w (BV v F0 w0 (Sk sb lb dz v::R)):=by
 obtain⟨A,a,D,d,F,f,g0⟩:=h.rH
 have g1:=g0.cells #[.int .i64 0,.slice none 0 0,.slice none 0 0,.slice none 0 0] 62
 have c0:w.cell? ⟨sb,2,none⟩=some (.int .i64 v.gen):=cell_of (g0.block 0 rfl) rfl
 have c1:w.cell? ⟨sb,3,none⟩=some (.slice A v.ax.length a):=cell_of (g0.block 0 rfl) rfl
 have c2:w.cell? ⟨sb,4,none⟩=some (.slice D v.bN.length d):=cell_of (g0.block 0 rfl) rfl
 have c3:w.cell? ⟨sb,5,none⟩=some (.slice F v.bU.length f):=cell_of (g0.block 0 rfl) rfl
 have K1:=Lib.hid (Sv (a:=a) (d:=d) (f:=f) (jA 2 3 4 rfl rfl rfl) (Sw 2 g1 rfl) hok g1)
 have hsb:sb < w.heap.size:=jU (g0.block 0 rfl)
 clear h g0 g1 hok
 go_enter Tryz.func36,Tryz.ntmps36
 go_wp2_with fail
 refine K1.out.mono ?_
 rintro e w4 ⟨A1,a1,D1,d1,F1,f1,rfl,g4⟩
 have Q1:=Lib.hid (fG (g4.block 3 rfl))
 have G:=Lib.hid (g4.gp 3 rfl (xs:=[.int .i64 v.gen,.slice A1 v.ax.length a1,.slice D1 v.bN.length d1,.slice F1 v.bU.length f1]) (b:=w.heap.size) (C:=#[.int .i64 0,.slice none 0 0,.slice none 0 0,.slice none 0 0]) (T:=62) rfl)
 clear g4 K1 c0 c1 c2 c3
 go_wp2_with (refine wpList_store_mid (op:=⟨none,Op.store 62 (.tmp 2) (.tmp 10),_,_,_,_⟩) (by rfl) 62 (.tmp 2) (.tmp 10) rfl w.heap.size 0 #[.int .i64 v.gen,.slice A1 v.ax.length a1,.slice D1 v.bN.length d1,.slice F1 v.bU.length f1] (by rfl) (by rfl) Q1.out (by kernel_rfl) (qG _ _ _ _ _ _ _ _ _ _) ?_)
 exact bodyPost_ret (results_cell_row Tryz.results36 _ _ w.heap.size 62 _ (0,0) _ rfl (G.out.block 3 rfl) Tryz.underlying62 rfl (by kernel_rfl)) rfl ⟨_,_,_,_,_,_,rfl,(In.kF (s:=v) (lb:=lb) (dz:=dz) (G.out.aI (R1:=[_,_,_,_,_,_,_,_]) [4,5,6,7,0,1,2] (by decide) rfl)).aI (R1:=[_,_,_,_]) [1,2,3,0] (by decide) rfl⟩
theorem jT (h:In F0 w0 w (Sk sb lb dz v::R)):Calls Tryz.prog 33 #[pR sb] w fun e w'=>e=.returned (pR dz)∧w'=w:=by
 obtain⟨A,a,D,d,F,f,g0⟩:=h.rH
 have c0:w.cell? ⟨sb,1,none⟩=some (pR dz):=cell_of (g0.block 0 rfl) rfl
 clear h g0
 go_enter Tryz.func33,Tryz.ntmps33
 go_wp2_with fail
 go_ret
 exact⟨rfl,rfl⟩
theorem sZ {l:bK} (h:In F0 w0 w (Sk sb lb dz v::eB lb bd l::R)):Calls Tryz.prog 42 #[pR sb] w fun e w'=>e=.returned (.int .i64 l.m.aj)∧w'=w:=by
 obtain⟨A,a,D,d,F,f,g0⟩:=h.rH
 have c0:w.cell? ⟨sb,0,none⟩=some (aD lb):=cell_of (g0.block 0 rfl) rfl
 have K:=Lib.hid (qJ h.drop)
 clear h g0
 go_enter Tryz.func42,Tryz.ntmps42
 go_wp2_with fail
 refine K.out.mono ?_
 rintro e w1 ⟨rfl,rfl⟩
 go_wp2_with fail
 go_ret
 exact⟨rfl,rfl⟩
theorem Sz {s:SD} (hl:gH s.2.l) (ho:s.1.ops≤99999000) (h:In F0 w0 w (oG sb lb bd dz s R)):Calls Tryz.prog 32 #[pR sb] w fun e w'=>e=.returned (.int .i64 (iN s).2)∧In F0 w0 w' (oG sb lb bd dz (iN s).1 R):=by
 obtain⟨A,a,D,d,F,f,g0⟩:=h.rH
 have c0:w.cell? ⟨sb,0,none⟩=some (aD lb):=cell_of (g0.block 0 rfl) rfl
 have K1:=Lib.hid (Vz (g0.aI (R1:=[_,_,_,_,_,_,_]) (R2:=R) [4,5,6,0,1,2,3] (by decide) rfl) hl ho)
 clear h g0 hl ho
 by_cases he:(fw (s.1,s.2.l)).2=0
 ·have e1:(iN s).1=((fw (s.1,s.2.l)).1.1,⟨(fw (s.1,s.2.l)).1.2,s.2.st,s.2.st⟩):=by unfold iN;rw [if_pos he]
  have e2:(iN s).2=0:=he
  rw [e1,e2]
  go_enter Tryz.func32,Tryz.ntmps32
  go_wp2_with fail
  refine K1.out.mono ?_
  rintro e w1 ⟨rfl,g1⟩
  clear K1 c0
  rw [he]
  have c1:w1.cell? ⟨sb,1,none⟩=some (pR dz):=cell_of (g1.block 3 rfl) rfl
  have K2:=Lib.hid (ig (g1.aI (R1:=[_,_,_,_,_,_,_]) (R2:=R) [2,0,1,3,4,5,6] (by decide) rfl))
  clear g1 he e1 e2
  go_wp2_with fail
  refine K2.out.mono ?_
  rintro e w2 ⟨A1,a1,D1,d1,F1,f1,rfl,g2⟩
  have Q1:=Lib.hid (BX (g2.block 6 rfl) 2 4 (Nat.le_refl 6))
  have g3:=g2.ku [.int .i64 s.2.st.gen,.slice A1 s.2.st.ax.length a1,.slice D1 s.2.st.bN.length d1,.slice F1 s.2.st.bU.length f1] 2 (b:=sb) (T:=150) (C:=IM lb dz s.2.sure.gen (.slice A s.2.sure.ax.length a) (.slice D s.2.sure.bN.length d) (.slice F s.2.sure.bU.length f)) 6 rfl
  have G:Hid (In F0 w0 (w2.setCells sb 2 [.int .i64 s.2.st.gen,.slice A1 s.2.st.ax.length a1,.slice D1 s.2.st.bN.length d1,.slice F1 s.2.st.bU.length f1]) (oG sb lb bd dz ((fw (s.1,s.2.l)).1.1,⟨(fw (s.1,s.2.l)).1.2,s.2.st,s.2.st⟩) R)):=Lib.hid (In.kF (s:=s.2.st) (lb:=lb) (dz:=dz) (g3.aI (R1:=[_,_,_,_,_,_,_,_,_,_]) (R2:=R) [6,0,1,2,4,5,3] (by decide) rfl))
  clear g2 g3 K2 c1
  go_wp2_with (refine wpList_store_mid (op:=⟨none,Op.store 62 (.tmp 20) (.tmp 18),_,_,_,_⟩) (by rfl) 62 (.tmp 20) (.tmp 18) rfl sb 2 #[.int .i64 s.2.st.gen,.slice A1 s.2.st.ax.length a1,.slice D1 s.2.st.bN.length d1,.slice F1 s.2.st.bU.length f1] (by rfl) (by rfl) Q1.out (by kernel_rfl) (qG _ _ _ _ _ _ _ _ _ _) ?_)
  go_ret
  exact⟨rfl,G.out⟩
 ·have e1:(iN s).1=((fw (s.1,s.2.l)).1.1,⟨(fw (s.1,s.2.l)).1.2,s.2.st,s.2.sure⟩):=by unfold iN;rw [if_neg he]
  have e2:(iN s).2=(fw (s.1,s.2.l)).2:=rfl
  rw [e1,e2]
  go_enter Tryz.func32,Tryz.ntmps32
  go_wp2_with fail
  refine K1.out.mono ?_
  rintro e w1 ⟨rfl,g1⟩
  clear K1 c0
  have G:Hid (In F0 w0 w1 (oG sb lb bd dz ((fw (s.1,s.2.l)).1.1,⟨(fw (s.1,s.2.l)).1.2,s.2.st,s.2.sure⟩) R)):=Lib.hid (In.kF (s:=s.2.sure) (lb:=lb) (dz:=dz) (g1.aI (R1:=[_,_,_,_,_,_,_]) (R2:=R) [3,4,5,6,0,1,2] (by decide) rfl))
  have q:((fw (s.1,s.2.l)).2 == 0)=false:=by rw [beq_eq_false_iff_ne];exact he
  clear g1 e1 e2
  go_wp2_with fail
  go_ret
  exact⟨rfl,G.out⟩
end
theorem yx (n:Nat) (s:pE):kS n s < 256 ^ n:=by
 unfold kS
 refine Nat.lt_of_lt_of_le (xE _) (Nat.pow_le_pow_right (by decide) ?_)
 unfold aS
 split
 ·simp
 ·split
  ·simp
  ·simp;omega
theorem SA (s:pE):Gy (yE s):=by
 have h1:=yx 4 s
 have h2:=yx 4 (gJ 4 s)
 have h3:=yx 1 (gJ 4 (gJ 4 s))
 have h4:=yx 2 (gJ 1 (gJ 4 (gJ 4 s)))
 have h5:=yx 2 (gJ 2 (gJ 1 (gJ 4 (gJ 4 s))))
 unfold yE
 simp only [Nat.reducePow] at h1 h2 h3 h4 h5
 constructor <;> (simp only;omega)
theorem tq:Gy eH:=by constructor <;> decide
theorem IU (s:pE):Gy (jV s).1:=by
 unfold jV
 split
 ·exact tq
 ·split
  ·exact SA s
  ·exact tq
theorem BZ (v:Int):∀ (n:Nat) (s:pE),∀ b∈(rdBks v n s).1,0≤b.addr∧b.addr < 4294967296
 | 0,s,b,h=>by simp [rdBks] at h
 | n+1,s,b,h=>by
  simp only [rdBks,List.mem_append,List.mem_singleton] at h
  rcases h with h | rfl
  ·exact BZ v n s b h
  ·have:=yx 4 (gJ 2 (rdBks v n s).2)
   simp only [Nat.reducePow] at this
   unfold vW
   simp only
   omega
theorem Ov (f:cB):mQ (jv f).1:=by
 have hz:mQ aT:=⟨tq,fun b hb=>by simp [aT] at hb⟩
 have hr:∀ (k v:Int) (s:pE),mQ (fO k v s).1:=by
  intro k v s
  unfold fO
  split
  ·exact⟨IU s,fun b hb=>by simp at hb⟩
  ·split
   ·exact⟨IU s,fun b hb=>by simp at hb⟩
   ·split
    ·exact⟨tq,fun b hb=>BZ _ _ _ b hb⟩
    ·repeat' split
     all_goals exact⟨tq,fun b hb=>by simp at hb⟩
 unfold jv
 split
 ·exact hz
 ·simp only
  split
  ·exact hr _ _ _
  ·exact hz
theorem Lp (f:cB):(jv f).1.ax.length≤17:=by
 have hb:∀ (v:Int) (n:Nat) (s:pE),(rdBks v n s).1.length=n:=by
  intro v n
  induction n with
  | zero=>intro s;rfl
  | succ n ih=>intro s;simp [rdBks,ih]
 have hr:∀ (k v:Int) (s:pE),(fO k v s).1.ax.length≤17:=by
  intro k v s
  unfold fO
  split
  ·simp
  ·split
   ·simp
   ·split
    ·simp only [hb];omega
    ·repeat' split
     all_goals simp
 unfold jv
 split
 ·simp [aT]
 ·simp only
  split
  ·exact hr _ _ _
  ·simp [aT]
section
variable {F0:List Nat} {w0 w:World} {R:List az} {dz:Nat} {s:fP}
theorem Ow {f:cB} {v:Value} (hlb:f.body.length≤100000000) (h:In F0 w0 w (nz v f::iH dz s::R)) :
  Calls Tryz.prog 126 #[.agg #[pR dz],.agg #[.int .i64 f.kind,.int .i64 f.aj,v]] w fun e w'=>e=.returned (.int .i64 (eO s f).2)∧In F0 w0 w' (iH dz (eO s f).1::R):=by
 obtain⟨F1,r1⟩:=h.get 0 rfl
 obtain⟨av,cv,rfl,-,-,-⟩:=ay.shape r1
 have hn:av=none→cv=0∧f.body=[]:=fun e=>⟨ay.Hy r1 e,by
  subst e
  have:=ay.at r1
  cases hb:f.body with
  | nil=>rfl
  | cons x xs=>obtain⟨b,hb2,-⟩:=this.2 0 (.int .u8 x.toNat) (by rw [hb];rfl);cases hb2⟩
 have h2:=(h.cells #[pR dz] 195).cells #[.int .i64 f.kind,.int .i64 f.aj,.slice av f.body.length cv] 40
 simp only [World.size_alloc] at h2
 have hwf:=Ov f
 have hbk:=Lp f
 have hrd:eO s f=if (jv f).2≠0∨(jv f).1.kind=6 then (s,3) else aX s (jv f).1:=rfl
 have K1:=Lib.hid (UQ (kind:=f.kind) (aj:=f.aj) (body:=f.body) (A:=av) (c:=cv) hn (fun w' h'=>by obtain⟨F',r'⟩:=h'.get 2 rfl;exact r'.all) hlb h2)
 rw [show (⟨f.kind,f.aj,f.body⟩:cB)=f from rfl] at K1
 generalize jv f=q at *
 obtain⟨⟨kind,⟨⟨src,dst,proto,ag,ah⟩,bI,aG,au⟩,gen,ax,bk,till,count⟩,er⟩:=q
 clear h h2 r1 hn hlb
 rw [hrd]
 clear hrd
 by_cases h0:er=0
 case neg=>
  have q0:decide (er=0)=false:=decide_eq_false h0
  have qn:(er != 0)=true:=by simpa using h0
  rw [if_pos (Or.inl h0)]
  go_enter Tryz.func126,Tryz.ntmps126
  go_wp2_with fail
  refine K1.out.mono ?_
  rintro e w1 ⟨pv,rfl,g1⟩
  obtain⟨Fp,rp⟩:=g1.get 0 rfl
  obtain⟨pa,pc,rfl,-,-,-⟩:=ay.shape rp
  have hpn:pa=none→pc=0:=fun e=>ay.Hy rp e
  have d0:w1.cell? ⟨w.heap.size,0,none⟩=some (pR dz):=cell_of (g1.block 2 rfl) rfl
  clear K1 rp
  have G:Hid (In F0 w0 w1 (iH dz s::R)):=Lib.hid (g1.aI (R1:=[_,_,_,_,_]) [4] (by decide) rfl)
  clear g1 h0
  go_wp2_with fail
  go_ret
  exact⟨rfl,G.out.alloc _⟩
 subst h0
 by_cases h6:kind=6
 ·subst h6
  rw [if_pos (Or.inr rfl)]
  go_enter Tryz.func126,Tryz.ntmps126
  go_wp2_with fail
  refine K1.out.mono ?_
  rintro e w1 ⟨pv,rfl,g1⟩
  obtain⟨Fp,rp⟩:=g1.get 0 rfl
  obtain⟨pa,pc,rfl,-,-,-⟩:=ay.shape rp
  have hpn:pa=none→pc=0:=fun e=>ay.Hy rp e
  have d0:w1.cell? ⟨w.heap.size,0,none⟩=some (pR dz):=cell_of (g1.block 2 rfl) rfl
  clear K1 rp
  have G:Hid (In F0 w0 w1 (iH dz s::R)):=Lib.hid (g1.aI (R1:=[_,_,_,_,_]) [4] (by decide) rfl)
  clear g1
  go_wp2_with fail
  go_ret
  exact⟨rfl,G.out.alloc _⟩
 ·rw [if_neg (by simp [h6])]
  have q6:(kind == 6)=false:=by simpa using h6
  go_enter Tryz.func126,Tryz.ntmps126
  go_wp2_with fail
  refine K1.out.mono ?_
  rintro e w1 ⟨pv,rfl,g1⟩
  obtain⟨Fp,rp⟩:=g1.get 0 rfl
  obtain⟨pa,pc,rfl,-,-,-⟩:=ay.shape rp
  have hpn:pa=none→pc=0:=fun e=>ay.Hy rp e
  have d0:w1.cell? ⟨w.heap.size,0,none⟩=some (pR dz):=cell_of (g1.block 2 rfl) rfl
  clear K1 rp
  have g2:=(g1.aI (R1:=[_,_,_,_,_]) [4,0] (by decide) rfl).alloc (.cells #[.int .i64 kind,.int .u32 src,.int .u32 dst,.int .i64 proto,.int .i64 ag,.int .i64 ah,.int .i64 bI,.int .i64 aG,.int .i64 au,.int .i64 gen,.slice pa ax.length pc,.int .i64 bk,.int .i64 till,.int .i64 count] 69)
  have KA:=Lib.hid (wX (r:=⟨kind,⟨⟨src,dst,proto,ag,ah⟩,bI,aG,au⟩,gen,ax,bk,till,count⟩) (wW rfl 0 rfl) hpn (by simp only;omega) hwf g2)
  have d0':(w1.alloc (.cells #[.int .i64 kind,.int .u32 src,.int .u32 dst,.int .i64 proto,.int .i64 ag,.int .i64 ah,.int .i64 bI,.int .i64 aG,.int .i64 au,.int .i64 gen,.slice pa ax.length pc,.int .i64 bk,.int .i64 till,.int .i64 count] 69)).cell? ⟨w.heap.size,0,none⟩=some (pR dz):=mY d0
  clear g1 g2 hwf hbk h6 d0
  go_wp2_with fail
  refine KA.out.mono ?_
  rintro e w4 ⟨rfl,g4⟩
  have G:=Lib.hid (g4.aI (R1:=[_,_]) [0] (by decide) rfl)
  clear g4 KA
  go_wp2_with fail
  go_ret
  exact⟨rfl,G.out⟩
theorem Lr (dz:Nat):Lj (fun _:fP=>0) (.func (.func 126) #[.agg #[pR dz]] #[]) (iH dz) eO where
 aA:=iH.aA dz
 grow:=fun s f=>Nat.zero_le _
 call:=Or.inr ⟨_,_,_,rfl,enters_of Tryz.func126 (by kernel_rfl) rfl,fun F0 w0 w' s f v RR _ hl h=>Ow hl h⟩
end
section
variable {F0:List Nat} {w0 w:World} {R:List az}
abbrev xh (v:Value) (l:List Nat):az:=ay 3 1 v l.length (cz l)
theorem Ox (l:List Nat):∀ u∈cz l,u.oneCell'=true:=by
 intro u hu
 simp only [cz,List.mem_map] at hu
 obtain⟨s,_,rfl⟩:=hu;rfl
theorem SC (h:In F0 w0 w R) {ad:Addr} {l:List Nat} {c:Nat} (hs:Src w (some ad) l.length 1 (cz l)) (hn:l.length≤1000000) :
  Calls Tryz.prog 212 #[.slice (some ad) l.length c] w fun e w'=>∃ a c',e=.returned (.slice a l.length c')∧In F0 w0 w' (xh (.slice a l.length c') l::R):=by
 have HH:=Lib.hid h
 have HS:=Lib.hid hs
 clear h hs
 have hq:∀ (w:World) (a:Option Addr) (n c n' c':Nat),(binOp .eql 43 (.slice a n c) (.slice none n' c')).run Tryz.prog w=.ok (.bool a.isNone) w:=fun w a n c n' c'=>Lib.run_eql_slice_nil w _ _ a n c n' c' Tryz.underlying43
 go_enter Tryz.func212,Tryz.ntmps212
 go_wp2_with (at_builtin;refine iP rfl ((HH.out.cells #[] 3).row0 (k:=1) 0 rfl) 0 rfl (.tmp 5) (.tmp 6) 43 (by rfl) Tryz.underlying43 oO (by decide) (by decide) (by rfl) (by rfl) (tN HS.out _) (Ox _) (by omega) ?_)
 intro v' w3 ho hg
 have ho':In F0 w0 w3 (xh v' l::R):=by simpa using ho
 obtain⟨Fv,rv⟩:=ho'.get 0 rfl
 obtain⟨a,c',rfl,-,-,-⟩:=ay.shape rv
 have HO:=Lib.hid ho'
 clear ho hg ho' rv
 go_wp2_with fail
 go_ret
 exact⟨_,_,rfl,HO.out⟩
theorem SE (h:In F0 w0 w R):Calls Tryz.prog 212 #[.slice none 0 0] w fun e w'=>∃ a c',e=.returned (.slice a 0 c')∧In F0 w0 w' (xh (.slice a 0 c') []::R):=by
 have HH:=Lib.hid (h.dG 3 1)
 clear h
 have hq:∀ (w:World) (a:Option Addr) (n c n' c':Nat),(binOp .eql 43 (.slice a n c) (.slice none n' c')).run Tryz.prog w=.ok (.bool a.isNone) w:=fun w a n c n' c'=>Lib.run_eql_slice_nil w _ _ a n c n' c' Tryz.underlying43
 go_enter Tryz.func212,Tryz.ntmps212
 go_wp2_with fail
 go_ret
 exact⟨_,_,rfl,HH.out⟩
theorem SF (h:In F0 w0 w R) {A:Option Addr} {c:Nat} {l:List Nat} (hn:A=none→c=0) (hs:Src w A l.length 1 (cz l)) (hl:l.length≤1000000) :
  Calls Tryz.prog 212 #[.slice A l.length c] w fun e w'=>∃ a c',e=.returned (.slice a l.length c')∧In F0 w0 w' (xh (.slice a l.length c') l::R):=by
 cases A with
 | none=>
  obtain rfl:=hn rfl
  have:l=[]:=by
   cases l with
   | nil=>rfl
   | cons b l=>obtain⟨ad,e,_⟩:=hs.at' (by simp);cases e
  subst this
  exact SE h
 | some ad=>exact SC h hs hl
theorem zS {l:List Nat} {k x:Nat} (h:l[k]?=some x):(cz l)[k]?=some (.int .i64 (x:Int)):=by simp [cz,h]
def FZ (l:List Nat) (x:Nat) (w:World) (i:Value) (wr:World):Prop:=∃ k:Nat,k≤l.length∧i=.int .i64 k∧(∀ y∈l.take k,y≠x)∧wr=w
theorem Yu {A:Option Addr} {c:Nat} {l:List Nat} {x:Nat} (hs:Src w A l.length 1 (cz l)) (hl:l.length≤1000000) :
  Calls Tryz.prog 243 #[.slice A l.length c,.int .i64 x] w fun e w'=>∃ z:Int,e=.returned (.int .i64 z)∧decide (0≤z)=l.contains x∧w'=w:=by
 have HR:Hid (FZ l x w (.int .i64 0) w):=Lib.hid ⟨0,Nat.zero_le _,rfl,by simp,rfl⟩
 have HS:=Lib.hid hs
 clear hs
 go_enter Tryz.func243,Tryz.ntmps243
 go_wp2_with fail
 go_loopw [8] (FZ l x w) (fun k _=>l.length - (intOf k).toNat)
 case atStart=>exact HR.out
 case round=>
  obtain⟨k,hk,rfl,ht,rfl⟩:=hrel
  clear HR
  by_cases hlt:k < l.length
  ·obtain⟨y,hy⟩:∃ y,l[k]?=some y:=⟨l[k],List.getElem?_eq_getElem hlt⟩
   obtain⟨g1,o1,rfl,s1⟩:=HS.out.plain (by omega) (by decide)
   have c0:=s1 k _ (zS hy)
   have hlt':(k:Int) < (l.length:Int):=Int.ofNat_lt.2 hlt
   have hw2:wrap64 ((k:Int)+1)=(k:Int)+1:=by unfold wrap64;omega
   by_cases hxy:y=x
   ·have q:((x:Int) == (y:Int))=true:=by rw [beq_iff_eq];omega
    have HC:Hid (decide ((0:Int)≤(k:Int))=l.contains x):=Lib.hid (by
     rw [decide_eq_true (by omega)]
     symm
     simp only [List.contains_eq_mem,decide_eq_true_eq]
     rw [← hxy];exact List.mem_of_getElem? hy)
    clear s1 hy ht hk hlt hxy HS
    go_wp2_with fail
    go_ret
    exact⟨_,rfl,HC.out,rfl⟩
   ·have q:((x:Int) == (y:Int))=false:=by rw [beq_eq_false_iff_ne];omega
    have HR:Hid (FZ l x wr (.int .i64 ((k:Int)+1)) wr):=Lib.hid ⟨k+1,(List.getElem?_eq_some_iff.1 hy).1,by rw [Int.natCast_add];rfl,by
     intro z hz
     rw [List.take_add_one,hy] at hz
     rcases List.mem_append.1 hz with hz | hz
     ·exact ht z hz
     ·simp at hz;rw [hz];exact hxy,rfl⟩
    clear s1 hy ht hk hlt hxy
    go_wp2_with fail
    go_roundw
    case rel=>(try rw [hw2]);exact HR.out
    case measure=>(try rw [hw2]);exact dV hlt'
  ·have hge:(l.length:Int)≤(k:Int):=Int.ofNat_le.2 (Nat.le_of_not_lt hlt)
   have HC:Hid (decide ((0:Int)≤-1)=l.contains x):=Lib.hid (by
    rw [decide_eq_false (by omega)]
    symm
    simp only [List.contains_eq_mem,decide_eq_false_iff_not]
    rw [List.take_of_length_le (Nat.le_of_not_lt hlt)] at ht
    exact fun hm=>ht x hm rfl)
   clear ht hk hlt
   go_wp2_with fail
   go_ret
   exact⟨_,rfl,HC.out,rfl⟩
theorem VF {A:Option Addr} {c:Nat} {l:List Nat} {x:Nat} (hs:Src w A l.length 1 (cz l)) (hl:l.length≤1000000) :
  Calls Tryz.prog 215 #[.slice A l.length c,.int .i64 x] w fun e w'=>e=.returned (.bool (l.contains x))∧w'=w:=by
 have K:=Lib.hid (Yu (c:=c) (x:=x) hs hl)
 clear hs
 go_enter Tryz.func215,Tryz.ntmps215
 go_wp2_with fail
 refine K.out.mono ?_
 rintro e w1 ⟨z,rfl,hz,rfl⟩
 have HZ:=Lib.hid hz
 clear hz K
 go_wp2_with fail
 go_ret
 exact⟨by rw [← HZ.out];rfl,rfl⟩
theorem WJ {l1 l2:List Nat} {A1 A2:Option Addr} {c1 c2:Nat} (h1:Nv F0 w0 R A1 l1) (h2:Nv F0 w0 R A2 l2) (hl:l1.length≤1000000) (h:In F0 w0 w R):Calls Tryz.prog 136 #[.slice A1 l1.length c1,.slice A2 l2.length c2] w fun e w'=>e=.returned (.bool (decide (l1=l2)))∧In F0 w0 w' R:=by
 by_cases hlen:l1.length=l2.length
 case neg=>
  have hd:decide (l1=l2)=false:=decide_eq_false (fun e=>hlen (by rw [e]))
  have q:((l1.length:Int) != (l2.length:Int))=true:=by rw [bne_iff_ne];omega
  have G:=Lib.hid h
  rw [hd]
  clear h h1 h2 hlen hd hl
  go_enter Tryz.func136,Tryz.ntmps136
  go_wp2_with fail
  go_ret
  exact⟨rfl,G.out⟩
 have HA:=Lib.hid h1
 have HB:=Lib.hid h2
 have HR:Hid (qF l1 l2 F0 w0 R (.int .i64 0) w):=Lib.hid ⟨0,Nat.zero_le _,rfl,rfl,h⟩
 have jw:=Lib.hid hlen
 have q:((l1.length:Int) != (l2.length:Int))=false:=by simp [hlen]
 clear h h1 h2 hlen
 go_enter Tryz.func136,Tryz.ntmps136
 go_wp2_with fail
 go_loopw [13] (qF l1 l2 F0 w0 R) (fun k _=>l1.length - (intOf k).toNat)
 case atStart=>exact HR.out
 case round=>
  obtain⟨k,hk,rfl,ht,ho⟩:=hrel
  clear HR
  by_cases hlt:k < l1.length
  ·obtain⟨x,hx⟩:∃ x,l1[k]?=some x:=⟨l1[k],List.getElem?_eq_getElem hlt⟩
   obtain⟨y,hy⟩:∃ y,l2[k]?=some y:=⟨l2[k]'(by rw [← jw.out];exact hlt),List.getElem?_eq_getElem _⟩
   obtain⟨g1,o1,rfl,s1⟩:=(HA.out wr ho).plain (by omega) (by decide)
   obtain⟨g2,o2,rfl,s2⟩:=(HB.out wr ho).plain (by rw [← jw.out];omega) (by decide)
   have c0:=s1 k _ (zS hx)
   have d0:=s2 k _ (zS hy)
   have hlt':(k:Int) < (l1.length:Int):=Int.ofNat_lt.2 hlt
   have Yc:(k:Int) < (l2.length:Int):=by rw [← jw.out];exact hlt'
   have hw2:wrap64 ((k:Int)+1)=(k:Int)+1:=by unfold wrap64;omega
   clear s1 s2
   by_cases hxy:x=y
   ·have HN:Hid (∀ n,qF l1 l2 F0 w0 R (.int .i64 ((k:Int)+1)) (wr.drewN n)):=Lib.hid fun n=>zP hx hy ht hxy (ho.drewN n)
    have q2:((x:Int) != (y:Int))=false:=by simp [hxy]
    clear ho hx hy ht hk hlt hxy HA HB jw
    go_wp2_with fail
    go_quiet (fail)
    go_wp2_with fail
    go_roundw
    case rel=>(try rw [hw2]);exact HN.out _
    case measure=>(try rw [hw2]);exact dV hlt'
   ·have HD:Hid (decide (l1=l2)=false):=Lib.hid (by
     rw [decide_eq_false_iff_not]
     intro e;rw [e,hy] at hx;exact hxy (Option.some.inj hx).symm)
    have HN:=Lib.hid fun n=>ho.drewN n
    have q2:((x:Int) != (y:Int))=true:=by rw [bne_iff_ne];omega
    clear ho hx hy ht hk hlt hxy HA HB jw
    go_wp2_with fail
    go_quiet (fail)
    go_wp2_with fail
    go_ret
    exact⟨by rw [HD.out];rfl,HN.out _⟩
  ·have hge:(l1.length:Int)≤(k:Int):=Int.ofNat_le.2 (Nat.le_of_not_lt hlt)
   have HD:Hid (decide (l1=l2)=true):=Lib.hid (by
    rw [decide_eq_true_eq]
    rw [List.take_of_length_le (Nat.le_of_not_lt hlt),List.take_of_length_le (by rw [← jw.out];exact Nat.le_of_not_lt hlt)] at ht
    exact ht)
   have HN:=Lib.hid ho
   clear ho ht hk hlt HA HB jw
   go_wp2_with fail
   go_ret
   exact⟨by rw [HD.out];rfl,HN.out⟩
end
end Go.Proofs.YtogclkhpbjfadaaGreat
