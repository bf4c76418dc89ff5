/- .. -/
import Derived.Test.YtanhdliaaccacaaGreatUB28
import Derived.Test.YtanhdliaaccacaaGreatUB29
import Derived.Test.YtanhdliaaccacaaGreatUB23
import Derived.Test.YtanhdliaaccacaaGreatUB9
namespace Go.Proofs.YtanhdliaaccacaaGreat
open Go.RowKit
set_option linter.unusedVariables false
set_option maxHeartbeats 64000000
set_option maxRecDepth 100000
section
variable {F0:List Nat} {w0 w:World} {R:List ax} {sb lb bd dA:Nat} {v:eT}
def SE (v:eT) (F0:List Nat) (w0:World) (R:List ax) (e:Ending) (w':World):Prop:=∃ A a D d F f,e=.returned (zx v A a D d F f)∧In F0 w0 w' (gq (.slice A v.au.length a) v.au::xA (.slice D v.bL.length d) v.bL::FM (.slice F v.bS.length f) v.bS::R)
theorem BU {W:World} {b:Nat} {C:Array Value} {T:TypeId} (h:W.heap[b]?=some (.cells C T (0,0))) (o m:Nat) (hm:o+m≤C.size):W.there b o m:=fun j hj=>by
 refine⟨?_,aK h⟩
 rw [cell_of h (Array.getElem?_eq_getElem (by omega))];rfl
theorem uC {s:eT} (h:In F0 w0 w (iF sb s::R)):Calls Tryz.prog 16 #[pR sb] w (SE s F0 w0 (iF sb s::R)):=tH h
theorem DN (h:In F0 w0 w (VF sb lb dA v::R)):Calls Tryz.prog 15 #[pR sb] w fun e w'=>e=.returned (pR dA)∧w'=w:=by
 obtain⟨A,a,D,d,F,f,g0⟩:=h.yu
 have c0:w.cell? ⟨sb,1,none⟩=some (pR dA):=cell_of (g0.block 0 rfl) rfl
 clear h g0
 go_enter Tryz.func15,Tryz.ntmps15
 go_wp2_with fail
 go_ret
 exact⟨rfl,rfl⟩
theorem tN {l:bI} (h:In F0 w0 w (VF sb lb dA v::eH lb bd l::R)):Calls Tryz.prog 35 #[pR sb] w fun e w'=>e=.returned (.int .i64 l.m.ak)∧w'=w:=by
 obtain⟨A,a,D,d,F,f,g0⟩:=h.yu
 have c0:w.cell? ⟨sb,0,none⟩=some (aF lb):=cell_of (g0.block 0 rfl) rfl
 have K:=Lib.hid (qH h.drop)
 clear h g0
 go_enter Tryz.func35,Tryz.ntmps35
 go_wp2_with fail
 refine K.out.mono ?_
 rintro e w1 ⟨rfl,rfl⟩
 go_wp2_with fail
 go_ret
 exact⟨rfl,rfl⟩
theorem aao {s:SD} (hl:ib s.2.l) (ho:s.1.ops≤99999000) (h:In F0 w0 w (vQ sb lb bd dA s R)):Calls Tryz.prog 38 #[pR sb] w fun e w'=>e=.returned (.int .i64 (jM s).2)∧In F0 w0 w' (vQ sb lb bd dA (jM s).1 R):=by
 obtain⟨A,a,D,d,F,f,g0⟩:=h.yu
 have c0:w.cell? ⟨sb,0,none⟩=some (aF lb):=cell_of (g0.block 0 rfl) rfl
 have K1:=Lib.hid (VC (g0.aL (R1:=[_,_,_,_,_,_,_]) (R2:=R) [4,5,6,0,1,2,3] (by decide) rfl) hl ho)
 clear h g0 hl ho
 by_cases he:(fM (s.1,s.2.l)).2=0
 ·have e1:(jM s).1=((fM (s.1,s.2.l)).1.1,⟨(fM (s.1,s.2.l)).1.2,s.2.st,s.2.st⟩):=by unfold jM;rw [if_pos he]
  have e2:(jM s).2=0:=he
  rw [e1,e2]
  go_enter Tryz.func38,Tryz.ntmps38
  go_wp2_with fail
  refine K1.out.mono ?_
  rintro e w1 ⟨rfl,g1⟩
  clear K1 c0
  rw [he]
  have c1:w1.cell? ⟨sb,1,none⟩=some (pR dA):=cell_of (g1.block 3 rfl) rfl
  have K2:=Lib.hid (uC (g1.aL (R1:=[_,_,_,_,_,_,_]) (R2:=R) [2,0,1,3,4,5,6] (by decide) rfl))
  clear g1 he e1 e2
  go_wp2_with fail
  refine K2.out.mono ?_
  rintro e w2 ⟨A1,a1,D1,d1,F1,f1,rfl,g2⟩
  have Q1:=Lib.hid (BU (g2.block 6 rfl) 2 4 (Nat.le_refl 6))
  have g3:=g2.ku [.int .i64 s.2.st.gen,.slice A1 s.2.st.au.length a1,.slice D1 s.2.st.bL.length d1,.slice F1 s.2.st.bS.length f1] 2 (b:=sb) (T:=96) (C:=IZ lb dA s.2.sure.gen (.slice A s.2.sure.au.length a) (.slice D s.2.sure.bL.length d) (.slice F s.2.sure.bS.length f)) 6 rfl
  have G:Hid (In F0 w0 (w2.setCells sb 2 [.int .i64 s.2.st.gen,.slice A1 s.2.st.au.length a1,.slice D1 s.2.st.bL.length d1,.slice F1 s.2.st.bS.length f1]) (vQ sb lb bd dA ((fM (s.1,s.2.l)).1.1,⟨(fM (s.1,s.2.l)).1.2,s.2.st,s.2.st⟩) R)):=Lib.hid (In.lY (s:=s.2.st) (lb:=lb) (dA:=dA) (g3.aL (R1:=[_,_,_,_,_,_,_,_,_,_]) (R2:=R) [6,0,1,2,4,5,3] (by decide) rfl))
  clear g2 g3 K2 c1
  go_wp2_with (refine wpList_store_mid (op:=⟨none,Op.store 26 (.tmp 20) (.tmp 18),_,_,_,_⟩) (by rfl) 26 (.tmp 20) (.tmp 18) rfl sb 2 #[.int .i64 s.2.st.gen,.slice A1 s.2.st.au.length a1,.slice D1 s.2.st.bL.length d1,.slice F1 s.2.st.bS.length f1] (by rfl) (by rfl) Q1.out (by kernel_rfl) (oC _ _ _ _ _ _ _ _ _ _) ?_)
  go_ret
  exact⟨rfl,G.out⟩
 ·have e1:(jM s).1=((fM (s.1,s.2.l)).1.1,⟨(fM (s.1,s.2.l)).1.2,s.2.st,s.2.sure⟩):=by unfold jM;rw [if_neg he]
  have e2:(jM s).2=(fM (s.1,s.2.l)).2:=rfl
  rw [e1,e2]
  go_enter Tryz.func38,Tryz.ntmps38
  go_wp2_with fail
  refine K1.out.mono ?_
  rintro e w1 ⟨rfl,g1⟩
  clear K1 c0
  have G:Hid (In F0 w0 w1 (vQ sb lb bd dA ((fM (s.1,s.2.l)).1.1,⟨(fM (s.1,s.2.l)).1.2,s.2.st,s.2.sure⟩) R)):=Lib.hid (In.lY (s:=s.2.sure) (lb:=lb) (dA:=dA) (g1.aL (R1:=[_,_,_,_,_,_,_]) (R2:=R) [3,4,5,6,0,1,2] (by decide) rfl))
  have q:((fM (s.1,s.2.l)).2 == 0)=false:=by rw [beq_eq_false_iff_ne];exact he
  clear g1 e1 e2
  go_wp2_with fail
  go_ret
  exact⟨rfl,G.out⟩
end
theorem yA (n:Nat) (s:pq):kR n s < 256 ^ n:=by
 unfold kR
 refine Nat.lt_of_lt_of_le (xD _) (Nat.pow_le_pow_right (by decide) ?_)
 unfold aU
 split
 ·simp
 ·split
  ·simp
  ·simp;omega
theorem SF (s:pq):GK (yG s):=by
 have h1:=yA 4 s
 have h2:=yA 4 (gK 4 s)
 have h3:=yA 1 (gK 4 (gK 4 s))
 have h4:=yA 2 (gK 1 (gK 4 (gK 4 s)))
 have h5:=yA 2 (gK 2 (gK 1 (gK 4 (gK 4 s))))
 unfold yG
 simp only [Nat.reducePow] at h1 h2 h3 h4 h5
 constructor <;> (simp only;omega)
theorem tO:GK eO:=by constructor <;> decide
theorem Jc (s:pq):GK (jV s).1:=by
 unfold jV
 split
 ·exact tO
 ·split
  ·exact SF s
  ·exact tO
theorem BV (v:Int):∀ (n:Nat) (s:pq),∀ b∈(rdBks v n s).1,0≤b.addr∧b.addr < 4294967296
 | 0,s,b,h=>by simp [rdBks] at h
 | n+1,s,b,h=>by
  simp only [rdBks,List.mem_append,List.mem_singleton] at h
  rcases h with h | rfl
  ·exact BV v n s b h
  ·have:=yA 4 (gK 2 (rdBks v n s).2)
   simp only [Nat.reducePow] at this
   unfold wy
   simp only
   omega
theorem OI (f:cz):nS (jy f).1:=by
 have hz:nS aM:=⟨tO,fun b hb=>by simp [aM] at hb⟩
 have hr:∀ (k v:Int) (s:pq),nS (fQ k v s).1:=by
  intro k v s
  unfold fQ
  split
  ·exact⟨Jc s,fun b hb=>by simp at hb⟩
  ·split
   ·exact⟨Jc s,fun b hb=>by simp at hb⟩
   ·split
    ·exact⟨tO,fun b hb=>BV _ _ _ b hb⟩
    ·repeat' split
     all_goals exact⟨tO,fun b hb=>by simp at hb⟩
 unfold jy
 split
 ·exact hz
 ·simp only
  split
  ·exact hr _ _ _
  ·exact hz
theorem LG (f:cz):(jy f).1.au.length≤17:=by
 have hb:∀ (v:Int) (n:Nat) (s:pq),(rdBks v n s).1.length=n:=by
  intro v n
  induction n with
  | zero=>intro s;rfl
  | succ n ih=>intro s;simp [rdBks,ih]
 have hr:∀ (k v:Int) (s:pq),(fQ k v s).1.au.length≤17:=by
  intro k v s
  unfold fQ
  split
  ·simp
  ·split
   ·simp
   ·split
    ·simp only [hb];omega
    ·repeat' split
     all_goals simp
 unfold jy
 split
 ·simp [aM]
 ·simp only
  split
  ·exact hr _ _ _
  ·simp [aM]
section
variable {F0:List Nat} {w0 w:World} {R:List ax} {dA:Nat} {s:eT}
theorem OJ {f:cz} {v:Value} (hlb:f.body.length≤100000000) (h:In F0 w0 w (nz v f::iF dA s::R)) :
  Calls Tryz.prog 81 #[.agg #[pR dA],.agg #[.int .i64 f.kind,.int .i64 f.ak,v]] w fun e w'=>e=.returned (.int .i64 (eP s f).2)∧In F0 w0 w' (iF dA (eP s f).1::R):=by
 obtain⟨F1,r1⟩:=h.get 0 rfl
 obtain⟨av,cv,rfl,-,-,-⟩:=ay.shape r1
 have hn:av=none→cv=0∧f.body=[]:=fun e=>⟨ay.Jz r1 e,by
  subst e
  have:=ay.at r1
  cases hb:f.body with
  | nil=>rfl
  | cons x xs=>obtain⟨b,hb2,-⟩:=this.2 0 (.int .u8 x.toNat) (by rw [hb];rfl);cases hb2⟩
 have h2:=(h.cells #[pR dA] 148).cells #[.int .i64 f.kind,.int .i64 f.ak,.slice av f.body.length cv] 86
 simp only [World.size_alloc] at h2
 have hwf:=OI f
 have hbk:=LG f
 have hrd:eP s f=if (jy f).2≠0∨(jy f).1.kind=6 then (s,3) else aX s (jy f).1:=rfl
 have K1:=Lib.hid (UW (kind:=f.kind) (ak:=f.ak) (body:=f.body) (A:=av) (c:=cv) hn (fun w' h'=>by obtain⟨F',r'⟩:=h'.get 2 rfl;exact r'.all) hlb h2)
 rw [show (⟨f.kind,f.ak,f.body⟩:cz)=f from rfl] at K1
 generalize jy f=q at *
 obtain⟨⟨kind,⟨⟨src,dst,proto,ag,ah⟩,bN,aJ,aA⟩,gen,au,bk,till,count⟩,er⟩:=q
 clear h h2 r1 hn hlb
 rw [hrd]
 clear hrd
 by_cases h0:er=0
 case neg=>
  have q0:decide (er=0)=false:=decide_eq_false h0
  have qn:(er != 0)=true:=by simpa using h0
  rw [if_pos (Or.inl h0)]
  go_enter Tryz.func81,Tryz.ntmps81
  go_wp2_with fail
  refine K1.out.mono ?_
  rintro e w1 ⟨pv,rfl,g1⟩
  obtain⟨Fp,rp⟩:=g1.get 0 rfl
  obtain⟨pa,pc,rfl,-,-,-⟩:=ay.shape rp
  have hpn:pa=none→pc=0:=fun e=>ay.Jz rp e
  have d0:w1.cell? ⟨w.heap.size,0,none⟩=some (pR dA):=cell_of (g1.block 2 rfl) rfl
  clear K1 rp
  have G:Hid (In F0 w0 w1 (iF dA s::R)):=Lib.hid (g1.aL (R1:=[_,_,_,_,_]) [4] (by decide) rfl)
  clear g1 h0
  go_wp2_with fail
  go_ret
  exact⟨rfl,G.out.alloc _⟩
 subst h0
 by_cases h6:kind=6
 ·subst h6
  rw [if_pos (Or.inr rfl)]
  go_enter Tryz.func81,Tryz.ntmps81
  go_wp2_with fail
  refine K1.out.mono ?_
  rintro e w1 ⟨pv,rfl,g1⟩
  obtain⟨Fp,rp⟩:=g1.get 0 rfl
  obtain⟨pa,pc,rfl,-,-,-⟩:=ay.shape rp
  have hpn:pa=none→pc=0:=fun e=>ay.Jz rp e
  have d0:w1.cell? ⟨w.heap.size,0,none⟩=some (pR dA):=cell_of (g1.block 2 rfl) rfl
  clear K1 rp
  have G:Hid (In F0 w0 w1 (iF dA s::R)):=Lib.hid (g1.aL (R1:=[_,_,_,_,_]) [4] (by decide) rfl)
  clear g1
  go_wp2_with fail
  go_ret
  exact⟨rfl,G.out.alloc _⟩
 ·rw [if_neg (by simp [h6])]
  have q6:(kind == 6)=false:=by simpa using h6
  go_enter Tryz.func81,Tryz.ntmps81
  go_wp2_with fail
  refine K1.out.mono ?_
  rintro e w1 ⟨pv,rfl,g1⟩
  obtain⟨Fp,rp⟩:=g1.get 0 rfl
  obtain⟨pa,pc,rfl,-,-,-⟩:=ay.shape rp
  have hpn:pa=none→pc=0:=fun e=>ay.Jz rp e
  have d0:w1.cell? ⟨w.heap.size,0,none⟩=some (pR dA):=cell_of (g1.block 2 rfl) rfl
  clear K1 rp
  have g2:=(g1.aL (R1:=[_,_,_,_,_]) [4,0] (by decide) rfl).alloc (.cells #[.int .i64 kind,.int .u32 src,.int .u32 dst,.int .i64 proto,.int .i64 ag,.int .i64 ah,.int .i64 bN,.int .i64 aJ,.int .i64 aA,.int .i64 gen,.slice pa au.length pc,.int .i64 bk,.int .i64 till,.int .i64 count] 59)
  have KA:=Lib.hid (xk (r:=⟨kind,⟨⟨src,dst,proto,ag,ah⟩,bN,aJ,aA⟩,gen,au,bk,till,count⟩) (xh rfl 0 rfl) hpn (by simp only;omega) hwf g2)
  have d0':(w1.alloc (.cells #[.int .i64 kind,.int .u32 src,.int .u32 dst,.int .i64 proto,.int .i64 ag,.int .i64 ah,.int .i64 bN,.int .i64 aJ,.int .i64 aA,.int .i64 gen,.slice pa au.length pc,.int .i64 bk,.int .i64 till,.int .i64 count] 59)).cell? ⟨w.heap.size,0,none⟩=some (pR dA):=mY d0
  clear g1 g2 hwf hbk h6 d0
  go_wp2_with fail
  refine KA.out.mono ?_
  rintro e w4 ⟨rfl,g4⟩
  have G:=Lib.hid (g4.aL (R1:=[_,_]) [0] (by decide) rfl)
  clear g4 KA
  go_wp2_with fail
  go_ret
  exact⟨rfl,G.out⟩
theorem LH (dA:Nat):LC (fun _:eT=>0) (.func (.func 81) #[.agg #[pR dA]] #[]) (iF dA) eP where
 aB:=iF.aB dA
 grow:=fun s f=>Nat.zero_le _
 call:=Or.inr ⟨_,_,_,rfl,enters_of Tryz.func81 (by kernel_rfl) rfl,fun F0 w0 w' s f v RR _ hl h=>OJ hl h⟩
end
section
variable {F0:List Nat} {w0 w:World} {R:List ax}
abbrev za (v:Value) (l:List Nat):ax:=ay 3 1 v l.length (cB l)
theorem OL (l:List Nat):∀ u∈cB l,u.oneCell'=true:=by
 intro u hu
 simp only [cB,List.mem_map] at hu
 obtain⟨s,_,rfl⟩:=hu;rfl
theorem SG (h:In F0 w0 w R) {ad:Addr} {l:List Nat} {c:Nat} (hs:Src w (some ad) l.length 1 (cB l)) (hn:l.length≤1000000) :
  Calls Tryz.prog 156 #[.slice (some ad) l.length c] w fun e w'=>∃ a c',e=.returned (.slice a l.length c')∧In F0 w0 w' (za (.slice a l.length c') l::R):=by
 have HH:=Lib.hid h
 have HS:=Lib.hid hs
 clear h hs
 have hq:∀ (w:World) (a:Option Addr) (n c n' c':Nat),(binOp .eql 104 (.slice a n c) (.slice none n' c')).run Tryz.prog w=.ok (.bool a.isNone) w:=fun w a n c n' c'=>Lib.run_eql_slice_nil w _ _ a n c n' c' Tryz.underlying104
 go_enter Tryz.func156,Tryz.ntmps156
 go_wp2_with (at_builtin;refine iG rfl ((HH.out.cells #[] 3).row0 (k:=1) 0 rfl) 0 rfl (.tmp 5) (.tmp 6) 104 (by rfl) Tryz.underlying104 oN (by decide) (by decide) (by rfl) (by rfl) (pV HS.out _) (OL _) (by omega) ?_)
 intro v' w3 ho hg
 have ho':In F0 w0 w3 (za v' l::R):=by simpa using ho
 obtain⟨Fv,rv⟩:=ho'.get 0 rfl
 obtain⟨a,c',rfl,-,-,-⟩:=ay.shape rv
 have HO:=Lib.hid ho'
 clear ho hg ho' rv
 go_wp2_with fail
 go_ret
 exact⟨_,_,rfl,HO.out⟩
theorem SH (h:In F0 w0 w R):Calls Tryz.prog 156 #[.slice none 0 0] w fun e w'=>∃ a c',e=.returned (.slice a 0 c')∧In F0 w0 w' (za (.slice a 0 c') []::R):=by
 have HH:=Lib.hid (h.dz 3 1)
 clear h
 have hq:∀ (w:World) (a:Option Addr) (n c n' c':Nat),(binOp .eql 104 (.slice a n c) (.slice none n' c')).run Tryz.prog w=.ok (.bool a.isNone) w:=fun w a n c n' c'=>Lib.run_eql_slice_nil w _ _ a n c n' c' Tryz.underlying104
 go_enter Tryz.func156,Tryz.ntmps156
 go_wp2_with fail
 go_ret
 exact⟨_,_,rfl,HH.out⟩
theorem SI (h:In F0 w0 w R) {A:Option Addr} {c:Nat} {l:List Nat} (hn:A=none→c=0) (hs:Src w A l.length 1 (cB l)) (hl:l.length≤1000000) :
  Calls Tryz.prog 156 #[.slice A l.length c] w fun e w'=>∃ a c',e=.returned (.slice a l.length c')∧In F0 w0 w' (za (.slice a l.length c') l::R):=by
 cases A with
 | none=>
  obtain rfl:=hn rfl
  have:l=[]:=by
   cases l with
   | nil=>rfl
   | cons b l=>obtain⟨ad,e,_⟩:=hs.at' (by simp);cases e
  subst this
  exact SH h
 | some ad=>exact SG h hs hl
theorem FY {l:List Nat} {k x:Nat} (h:l[k]?=some x):(cB l)[k]?=some (.int .i64 (x:Int)):=by simp [cB,h]
def FZ (l:List Nat) (x:Nat) (w:World) (i:Value) (wr:World):Prop:=∃ k:Nat,k≤l.length∧i=.int .i64 k∧(∀ y∈l.take k,y≠x)∧wr=w
theorem Yz {A:Option Addr} {c:Nat} {l:List Nat} {x:Nat} (hs:Src w A l.length 1 (cB l)) (hl:l.length≤1000000) :
  Calls Tryz.prog 224 #[.slice A l.length c,.int .i64 x] w fun e w'=>∃ z:Int,e=.returned (.int .i64 z)∧decide (0≤z)=l.contains x∧w'=w:=by
 have HR:Hid (FZ l x w (.int .i64 0) w):=Lib.hid ⟨0,Nat.zero_le _,rfl,by simp,rfl⟩
 have HS:=Lib.hid hs
 clear hs
 go_enter Tryz.func224,Tryz.ntmps224
 go_wp2_with fail
 go_loopw [8] (FZ l x w) (fun k _=>l.length - (intOf k).toNat)
 case atStart=>exact HR.out
 case round=>
  obtain⟨k,hk,rfl,ht,rfl⟩:=hrel
  clear HR
  by_cases hlt:k < l.length
  ·obtain⟨y,hy⟩:∃ y,l[k]?=some y:=⟨l[k],List.getElem?_eq_getElem hlt⟩
   obtain⟨g1,o1,rfl,s1⟩:=HS.out.plain (by omega) (by decide)
   have c0:=s1 k _ (FY hy)
   have hlt':(k:Int) < (l.length:Int):=Int.ofNat_lt.2 hlt
   have hw2:wrap64 ((k:Int)+1)=(k:Int)+1:=by unfold wrap64;omega
   by_cases hxy:y=x
   ·have q:((x:Int) == (y:Int))=true:=by rw [beq_iff_eq];omega
    have HC:Hid (decide ((0:Int)≤(k:Int))=l.contains x):=Lib.hid (by
     rw [decide_eq_true (by omega)]
     symm
     simp only [List.contains_eq_mem,decide_eq_true_eq]
     rw [← hxy];exact List.mem_of_getElem? hy)
    clear s1 hy ht hk hlt hxy HS
    go_wp2_with fail
    go_ret
    exact⟨_,rfl,HC.out,rfl⟩
   ·have q:((x:Int) == (y:Int))=false:=by rw [beq_eq_false_iff_ne];omega
    have HR:Hid (FZ l x wr (.int .i64 ((k:Int)+1)) wr):=Lib.hid ⟨k+1,(List.getElem?_eq_some_iff.1 hy).1,by rw [Int.natCast_add];rfl,by
     intro z hz
     rw [List.take_add_one,hy] at hz
     rcases List.mem_append.1 hz with hz | hz
     ·exact ht z hz
     ·simp at hz;rw [hz];exact hxy,rfl⟩
    clear s1 hy ht hk hlt hxy
    go_wp2_with fail
    go_roundw
    case rel=>(try rw [hw2]);exact HR.out
    case measure=>(try rw [hw2]);exact dS hlt'
  ·have hge:(l.length:Int)≤(k:Int):=Int.ofNat_le.2 (Nat.le_of_not_lt hlt)
   have HC:Hid (decide ((0:Int)≤-1)=l.contains x):=Lib.hid (by
    rw [decide_eq_false (by omega)]
    symm
    simp only [List.contains_eq_mem,decide_eq_false_iff_not]
    rw [List.take_of_length_le (Nat.le_of_not_lt hlt)] at ht
    exact fun hm=>ht x hm rfl)
   clear ht hk hlt
   go_wp2_with fail
   go_ret
   exact⟨_,rfl,HC.out,rfl⟩
theorem VJ {A:Option Addr} {c:Nat} {l:List Nat} {x:Nat} (hs:Src w A l.length 1 (cB l)) (hl:l.length≤1000000) :
  Calls Tryz.prog 165 #[.slice A l.length c,.int .i64 x] w fun e w'=>e=.returned (.bool (l.contains x))∧w'=w:=by
 have K:=Lib.hid (Yz (c:=c) (x:=x) hs hl)
 clear hs
 go_enter Tryz.func165,Tryz.ntmps165
 go_wp2_with fail
 refine K.out.mono ?_
 rintro e w1 ⟨z,rfl,hz,rfl⟩
 have HZ:=Lib.hid hz
 clear hz K
 go_wp2_with fail
 go_ret
 exact⟨by rw [← HZ.out];rfl,rfl⟩
theorem WO {l1 l2:List Nat} {A1 A2:Option Addr} {c1 c2:Nat} (h1:NJ F0 w0 R A1 l1) (h2:NJ F0 w0 R A2 l2) (hl:l1.length≤1000000) (h:In F0 w0 w R):Calls Tryz.prog 106 #[.slice A1 l1.length c1,.slice A2 l2.length c2] w fun e w'=>e=.returned (.bool (decide (l1=l2)))∧In F0 w0 w' R:=by
 by_cases hlen:l1.length=l2.length
 case neg=>
  have hd:decide (l1=l2)=false:=decide_eq_false (fun e=>hlen (by rw [e]))
  have q:((l1.length:Int) != (l2.length:Int))=true:=by rw [bne_iff_ne];omega
  have G:=Lib.hid h
  rw [hd]
  clear h h1 h2 hlen hd hl
  go_enter Tryz.func106,Tryz.ntmps106
  go_wp2_with fail
  go_ret
  exact⟨rfl,G.out⟩
 have HA:=Lib.hid h1
 have HB:=Lib.hid h2
 have HR:Hid (qC l1 l2 F0 w0 R (.int .i64 0) w):=Lib.hid ⟨0,Nat.zero_le _,rfl,rfl,h⟩
 have iT:=Lib.hid hlen
 have q:((l1.length:Int) != (l2.length:Int))=false:=by simp [hlen]
 clear h h1 h2 hlen
 go_enter Tryz.func106,Tryz.ntmps106
 go_wp2_with fail
 go_loopw [13] (qC l1 l2 F0 w0 R) (fun k _=>l1.length - (intOf k).toNat)
 case atStart=>exact HR.out
 case round=>
  obtain⟨k,hk,rfl,ht,ho⟩:=hrel
  clear HR
  by_cases hlt:k < l1.length
  ·obtain⟨x,hx⟩:∃ x,l1[k]?=some x:=⟨l1[k],List.getElem?_eq_getElem hlt⟩
   obtain⟨y,hy⟩:∃ y,l2[k]?=some y:=⟨l2[k]'(by rw [← iT.out];exact hlt),List.getElem?_eq_getElem _⟩
   obtain⟨g1,o1,rfl,s1⟩:=(HA.out wr ho).plain (by omega) (by decide)
   obtain⟨g2,o2,rfl,s2⟩:=(HB.out wr ho).plain (by rw [← iT.out];omega) (by decide)
   have c0:=s1 k _ (FY hx)
   have d0:=s2 k _ (FY hy)
   have hlt':(k:Int) < (l1.length:Int):=Int.ofNat_lt.2 hlt
   have Yg:(k:Int) < (l2.length:Int):=by rw [← iT.out];exact hlt'
   have hw2:wrap64 ((k:Int)+1)=(k:Int)+1:=by unfold wrap64;omega
   clear s1 s2
   by_cases hxy:x=y
   ·have HN:Hid (∀ n,qC l1 l2 F0 w0 R (.int .i64 ((k:Int)+1)) (wr.drewN n)):=Lib.hid fun n=>zQ hx hy ht hxy (ho.drewN n)
    have q2:((x:Int) != (y:Int))=false:=by simp [hxy]
    clear ho hx hy ht hk hlt hxy HA HB iT
    go_wp2_with fail
    go_quiet (fail)
    go_wp2_with fail
    go_roundw
    case rel=>(try rw [hw2]);exact HN.out _
    case measure=>(try rw [hw2]);exact dS hlt'
   ·have HD:Hid (decide (l1=l2)=false):=Lib.hid (by
     rw [decide_eq_false_iff_not]
     intro e;rw [e,hy] at hx;exact hxy (Option.some.inj hx).symm)
    have HN:=Lib.hid fun n=>ho.drewN n
    have q2:((x:Int) != (y:Int))=true:=by rw [bne_iff_ne];omega
    clear ho hx hy ht hk hlt hxy HA HB iT
    go_wp2_with fail
    go_quiet (fail)
    go_wp2_with fail
    go_ret
    exact⟨by rw [HD.out];rfl,HN.out _⟩
  ·have hge:(l1.length:Int)≤(k:Int):=Int.ofNat_le.2 (Nat.le_of_not_lt hlt)
   have HD:Hid (decide (l1=l2)=true):=Lib.hid (by
    rw [decide_eq_true_eq]
    rw [List.take_of_length_le (Nat.le_of_not_lt hlt),List.take_of_length_le (by rw [← iT.out];exact Nat.le_of_not_lt hlt)] at ht
    exact ht)
   have HN:=Lib.hid ho
   clear ho ht hk hlt HA HB iT
   go_wp2_with fail
   go_ret
   exact⟨by rw [HD.out];rfl,HN.out⟩
end
end Go.Proofs.YtanhdliaaccacaaGreat
