/- Parts of the proofs that a compaction keeps what lives, and done again is as once. -/
import Derived.Test.YtogclkhpbjfadaaGreatCK28
import Derived.Test.YtogclkhpbjfadaaGreatCK7
namespace Go.Proofs.YtogclkhpbjfadaaGreat
open Go.RowKit
set_option linter.unusedVariables false
set_option maxHeartbeats 64000000
set_option maxRecDepth 100000
structure Lj {σ:Type} (μ:σ→Nat) (ev:Value) (Acc:σ→az) (ef:σ→cB→σ×Int):Prop where
 aA:∀ s,bC (Acc s)
 grow:∀ s f,μ (ef s f).1≤μ s+1
 call:(ev=Value.nilFunc∧∀ s f,ef s f=(s,0))∨∃ Qr bound EI,ev=.func (.func Qr) bound EI∧(∀ args w',(callFunc Qr args).run Tryz.prog w'=.ok (.enter Qr args) w') ∧
  ∀ F0 w0 w' s f v RR,μ s≤100000000→f.body.length≤100000000→In F0 w0 w' (nz v f::Acc s::RR)→Calls Tryz.prog Qr (bound.push (.agg #[.int .i64 f.kind,.int .i64 f.aj,v])++EI) w' fun e w''=>e=.returned (.int .i64 (ef s f).2)∧In F0 w0 w'' (Acc (ef s f).1::RR)
theorem yw:∀ {fs:List cB} {vs:List Value} {k:Nat} {f:cB} {v:Value},vs.length=fs.length→fs[k]?=some f→vs[k]?=some v→(flatFr fs vs)[k * 3]?=some (.int .i64 f.kind)∧(flatFr fs vs)[k * 3+1]?=some (.int .i64 f.aj)∧(flatFr fs vs)[k * 3+2]?=some v
 | [],vs,k,f,v,_,h,_=>by simp at h
 | g::fs,[],k,f,v,h,_,_=>by simp at h
 | g::fs,u::vs,0,f,v,h,h1,h2=>by
  simp only [List.getElem?_cons_zero,Option.some.injEq] at h1 h2
  subst h1 h2
  exact⟨rfl,rfl,rfl⟩
 | g::fs,u::vs,k+1,f,v,h,h1,h2=>by
  simp only [List.getElem?_cons_succ] at h1 h2
  simp only [List.length_cons,Nat.add_right_cancel_iff] at h
  have ih:=yw (fs:=fs) (vs:=vs) h h1 h2
  have e:flatFr (g::fs) (u::vs)=vZ g u++flatFr fs vs:=rfl
  have el:(vZ g u).length=3:=rfl
  rw [e]
  refine⟨?_,?_,?_⟩
  ·rw [List.getElem?_append_right (by rw [el];omega),el,show (k+1) * 3 - 3=k * 3 by omega];exact ih.1
  ·rw [List.getElem?_append_right (by rw [el];omega),el,show (k+1) * 3+1 - 3=k * 3+1 by omega];exact ih.2.1
  ·rw [List.getElem?_append_right (by rw [el];omega),el,show (k+1) * 3+2 - 3=k * 3+2 by omega];exact ih.2.2
theorem FV {vs:List Value} {fs:List cB} {k:Nat} {f:cB} {v:Value} (h1:fs[k]?=some f) (h2:vs[k]?=some v):bodiesR (vs.drop k) (fs.drop k)=nz v f::bodiesR (vs.drop (k+1)) (fs.drop (k+1)):=by
 obtain⟨a1,rfl⟩:=List.getElem?_eq_some_iff.1 h1
 obtain⟨a2,rfl⟩:=List.getElem?_eq_some_iff.1 h2
 rw [List.drop_eq_getElem_cons a1,List.drop_eq_getElem_cons a2];rfl
theorem DK {w:World}:∀ {A1 R:List az} {F1 F2:List Nat},Star A1 w F1→Star R w F2→Apart F1 F2→Star (A1++R) w (F1++F2)
 | [],R,F1,F2,h1,h2,_=>by
  obtain rfl:F1=[]:=h1
  exact h2
 | A::A1,R,F1,F2,⟨G1,G2,g1,g2,g3,e⟩,h2,ha=>by
  subst e
  refine⟨G1,G2++F2,g1,DK g2 h2 (fun b hb=>ha b (List.mem_append_right _ hb)),fun b hb hb2=>?_,by rw [List.append_assoc]⟩
  rcases List.mem_append.1 hb2 with hb2 | hb2
  ·exact g3 b hb hb2
  ·exact ha b (List.mem_append_left _ hb) hb2
theorem In.Yo {F0:List Nat} {w0 w:World} {A1 R:List az} (hf:∀ A∈A1,bC A) (h:In F0 w0 w (Star A1::R)):In F0 w0 w (A1++R):=by
 obtain⟨F,⟨F1,F2,h1,h2,h3,rfl⟩,hF⟩:=h.star
 refine⟨fun A hA=>?_,⟨F1++F2,DK h1 h2 h3,hF⟩,h.mod⟩
 rcases List.mem_append.1 hA with hA | hA
 ·exact hf A hA
 ·exact h.aA A (List.mem_cons_of_mem _ hA)
theorem In.mid {F0:List Nat} {w0 w:World} {A:az} (X:List az) {R:List az} (h:In F0 w0 w (A::(X++R))):In F0 w0 w (A::R):=(h.perm List.perm_middle.symm).right
theorem In.FW {F0:List Nat} {w0 w:World} {R:List az} {v:Value} {fs:List cB} (h:In F0 w0 w (uU v fs::R)):∃ vs:List Value,vs.length=fs.length∧In F0 w0 w (ay 40 3 v fs.length (flatFr fs vs)::(bodiesR vs fs++R)):=by
 obtain⟨F,⟨F1,F2,⟨vs,hl,h1⟩,h2,h3,rfl⟩,hF⟩:=h.star
 refine⟨vs,hl,In.Yo (A1:=Eu v vs fs) Eu.aA ⟨fun A hA=>?_,⟨F1++F2,⟨F1,F2,h1,h2,h3,rfl⟩,hF⟩,h.mod⟩⟩
 rcases List.mem_cons.1 hA with rfl | hA
 ·exact bC.star Eu.aA
 ·exact h.aA A (List.mem_cons_of_mem _ hA)
theorem sW:∀ (n:Nat) (b:List UInt8),(frScanN n b).1.length≤n
 | 0,_=>Nat.le_refl _
 | n+1,b=>by
  unfold frScanN
  split
  ·simp
  ·split
   ·have:=sW n (b.drop (bf b).2.1)
    simp only [List.length_cons];omega
   ·simp
theorem BQ:∀ (n:Nat) (b:List UInt8),∀ f∈(frScanN n b).1,jI f
 | 0,b,f,h=>by simp [frScanN] at h
 | n+1,b,f,h=>by
  unfold frScanN at h
  split at h
  ·simp at h
  ·split at h
   ·rename_i h0
    rcases List.mem_cons.1 h with rfl | h
    ·exact (nH h0).2.2.2
    ·exact BQ n _ f h
   ·simp at h
theorem VB (w:World):(binOp BinOp.eql 104 Value.nilFunc Value.nilFunc).run Tryz.prog w=.ok (.bool true) w:=by kernel_rfl
theorem IP (Qr:FuncId) (bound EI:Array Value) (w:World):(binOp BinOp.eql 104 (.func (.func Qr) bound EI) Value.nilFunc).run Tryz.prog w=.ok (.bool false) w:=by rfl
section
variable {F0:List Nat} {w0 w:World} {R:List az} {bd:Nat} {d:ae} {σ:Type} {μ:σ→Nat} {Acc:σ→az} {ef:σ→cB→σ×Int} {ev:Value}
theorem BR (hg:∀ s f,μ (ef s f).1≤μ s+1) (aj:Nat):∀ (fs:List cB) (s:σ),μ (tellAll ef aj fs s).1≤μ s+fs.length
 | [],s=>by simp [tellAll]
 | f::r,s=>by
  unfold tellAll
  have h1:=hg s f
  have h2:=BR hg aj r (ef s f).1
  simp only [List.length_cons]
  split
  ·show μ s≤_;omega
  ·split
   ·omega
   ·omega
def lh (Acc:σ→az) (r:σ×Nat×Int) (F0:List Nat) (w0:World) (R:List az) (e:Ending) (w':World):Prop:=
 e=.returned (.tuple #[.int .i64 r.2.1,.int .i64 r.2.2])∧In F0 w0 w' (Acc r.1::R)
def zR (μ:σ→Nat) (ef:σ→cB→σ×Int) (Acc:σ→az) (aj:Nat) (fs:List cB) (vs:List Value) (s:σ) (v:Value) (mb:Nat) (M:Array Value) (F0:List Nat) (w0:World) (R:List az) (i:Value) (wr:World):Prop:=
 ∃ (k:Nat) (s':σ),i=.int .i64 k∧k≤fs.length∧μ s'≤μ s+k∧tellAll ef aj fs s=tellAll ef aj (fs.drop k) s'∧In F0 w0 wr (ay 40 3 v fs.length (flatFr fs vs)::Cells mb M 111::Acc s'::(bodiesR (vs.drop k) (fs.drop k)++R))
theorem Yp (hE:Lj μ ev Acc ef) (s:σ) (hμ:μ s≤90000000) (h:In F0 w0 w (Acc s::R)) (j:Nat) (hA:R[j]?=some (bJ bd d)) (m:dw) {A:Option Addr} {c:Nat} (hs:Nv F0 w0 R A m.aa) (i:Nat) (hi:i < m.aa.length) (hn:m.aa.length≤1000) (hsg:∀ x∈m.aa,x < 4611686018427387904) :
  Calls Tryz.prog 80 #[aD bd,iM m A c,.int .i64 i,ev] w (lh Acc (dX ef d m i s) F0 w0 R):=by
 have h1:=h.cells #[.int .i64 m.aj,.int .i64 m.next,.slice A m.aa.length c] 111
 obtain⟨x,hx⟩:∃ x,m.aa[i]?=some x:=⟨m.aa[i],List.getElem?_eq_getElem hi⟩
 have hgd:m.aa.getD i 0=x:=by rw [List.getD_eq_getElem?_getD,hx];rfl
 obtain⟨ad,rfl,hc⟩:=(hs _ (h.alloc (.cells #[.int .i64 m.aj,.int .i64 m.next,.slice A m.aa.length c] 111)).drop).at' (by omega)
 have cx:=hc i (.int .i64 x) (by simp [cz,hx])
 have C1:=Lib.hid (nU h1 x (hsg x (List.mem_of_getElem? hx)))
 have C2:=Lib.hid (fun w' (h':In F0 w0 w' (Cells w.heap.size #[.int .i64 m.aj,.int .i64 m.next,.slice (some ad) m.aa.length c] 111::Acc s::R))=>wR h' (j+2) hA (ai x) (df _))
 have hdk:aP d:=by
  obtain⟨F,hF⟩:=h.get (j+1) hA
  exact hF.1
 have HB:Hid (((gY d (ai x)).getD []).length≤1048576):=Lib.hid (mF hdk (ai x))
 have HS:Hid (dX ef d m i s=match gY d (ai x) with
  | none=>(s,0,6)
  | some b=>
   if (bO b).2.2≠0∧i+1 < m.aa.length then (s,0,3)
   else if (tellAll ef m.aj (bO b).1 s).2≠0 then ((tellAll ef m.aj (bO b).1 s).1,0,(tellAll ef m.aj (bO b).1 s).2)
   else ((tellAll ef m.aj (bO b).1 s).1,(bO b).2.1,0)):=Lib.hid (by unfold dX;rw [hgd];cases gY d (ai x) <;> rfl)
 have hilt:(i:Int) < (m.aa.length:Int):=by omega
 unfold iM
 clear h h1 hs hc hA hdk hsg hgd hx
 cases hd:gY d (ai x) with
 | none=>
  have HF:Hid (∀ w',In F0 w0 w' (Acc s::R)→lh Acc (dX ef d m i s) F0 w0 R (.returned (.tuple #[.int .i64 0,.int .i64 6])) w'):=Lib.hid fun w' h'=>by
   rw [HS.out,hd];exact⟨rfl,h'⟩
  have HD:=Lib.hid hd
  clear hd HS HB
  go_enter Tryz.func80,Tryz.ntmps80
  go_wp2_with fail
  refine C1.out.mono ?_
  rintro e w1 ⟨rfl,g1⟩
  have K2:=Lib.hid (C2.out w1 g1)
  clear g1 C1 C2
  go_wp2_with fail
  refine K2.out.mono ?_
  rintro e w2 ⟨v,rfl,g2⟩
  rw [HD.out] at g2 ⊢
  have G:=Lib.hid (HF.out w2 g2.drop.drop)
  clear g2 K2 HF
  go_wp2_with fail
  go_ret2
  exact G.out
 | some b=>
  have HD:=Lib.hid hd
  have hbl:b.length≤1048576:=by have:=HB.out;rw [hd] at this;exact this
  rw [hd] at HS
  simp only at HS
  have Gr:=Lib.hid hbl
  clear hd HB hbl
  by_cases hbad:(bO b).2.2≠0∧i+1 < m.aa.length
  ·have HF:Hid (∀ w',In F0 w0 w' (Acc s::R)→lh Acc (dX ef d m i s) F0 w0 R (.returned (.tuple #[.int .i64 0,.int .i64 3])) w'):=Lib.hid fun w' h'=>by
    rw [HS.out,if_pos hbad];exact⟨rfl,h'⟩
   have q1:((bO b).2.2 != 0)=true:=by rw [bne_iff_ne];exact hbad.1
   have hw1:IntKind.i64.wrap ((m.aa.length:Int) - 1)=(m.aa.length:Int) - 1:=IntWalk.i64_in _ (by omega)
   have q2:decide ((i:Int) < (m.aa.length:Int) - 1)=true:=by simp;omega
   clear hbad HS
   go_enter Tryz.func80,Tryz.ntmps80
   go_wp2_with fail
   refine C1.out.mono ?_
   rintro e w1 ⟨rfl,g1⟩
   have K2:=Lib.hid (C2.out w1 g1)
   clear g1 C1 C2
   go_wp2_with fail
   refine K2.out.mono ?_
   rintro e w2 ⟨v,rfl,g2⟩
   rw [HD.out] at g2 ⊢
   simp only [Option.getD_some,Option.isSome_some] at g2 ⊢
   obtain⟨ab,cb,rfl,hbb⟩:=nJ (b:=b) (i:=0) g2 rfl
   have K3:=Lib.hid (Ha g2 hbb (by have:=Gr.out;omega))
   clear g2 K2 hbb
   go_wp2_with fail
   refine K3.out.mono ?_
   rintro e w3 ⟨v3,rfl,g3⟩
   have d2:w3.cell? ⟨w.heap.size,2,none⟩=some (.slice (some ad) m.aa.length c):=cell_of (g3.block 2 rfl) rfl
   have G:=Lib.hid (HF.out w3 g3.drop.drop.drop)
   clear g3 K3 HF
   go_wp2_with fail
   go_ret2
   exact G.out
  ·have HF:Hid (∀ w',(tellAll ef m.aj (bO b).1 s).2≠0→In F0 w0 w' (Acc (tellAll ef m.aj (bO b).1 s).1::R)→lh Acc (dX ef d m i s) F0 w0 R (.returned (.tuple #[.int .i64 0,.int .i64 (tellAll ef m.aj (bO b).1 s).2])) w'):=Lib.hid fun w' hne h'=>by
    rw [HS.out,if_neg hbad,if_pos hne];exact⟨rfl,h'⟩
   have HG:Hid (∀ w',(tellAll ef m.aj (bO b).1 s).2=0→In F0 w0 w' (Acc (tellAll ef m.aj (bO b).1 s).1::R)→lh Acc (dX ef d m i s) F0 w0 R (.returned (.tuple #[.int .i64 (bO b).2.1,.int .i64 0])) w'):=Lib.hid fun w' h0 h'=>by
    rw [HS.out,if_neg hbad,if_neg (by rw [h0];simp)];exact⟨rfl,h'⟩
   have hw1:IntKind.i64.wrap ((m.aa.length:Int) - 1)=(m.aa.length:Int) - 1:=IntWalk.i64_in _ (by omega)
   have HQ:Hid ((((bO b).2.2 != 0)=false)∨((((bO b).2.2 != 0)=true)∧decide ((i:Int) < (m.aa.length:Int) - 1)=false)):=Lib.hid (by
    by_cases h0:(bO b).2.2=0
    ·left;simp [h0]
    ·right;refine⟨by rw [bne_iff_ne];exact h0,by simp;omega⟩)
   have YY:Hid ((bO b).1.length≤1048576):=Lib.hid (Nat.le_trans (sW _ b) Gr.out)
   have HFO:Hid (∀ f∈(bO b).1,jI f):=Lib.hid (BQ _ b)
   clear hbad HS
   go_enter Tryz.func80,Tryz.ntmps80
   go_wp2_with fail
   refine C1.out.mono ?_
   rintro e w1 ⟨rfl,g1⟩
   have K2:=Lib.hid (C2.out w1 g1)
   clear g1 C1 C2
   go_wp2_with fail
   refine K2.out.mono ?_
   rintro e w2 ⟨v,rfl,g2⟩
   rw [HD.out] at g2 ⊢
   simp only [Option.getD_some,Option.isSome_some] at g2 ⊢
   obtain⟨ab,cb,rfl,hbb⟩:=nJ (b:=b) (i:=0) g2 rfl
   have K3:=Lib.hid (Ha g2 hbb (by have:=Gr.out;omega))
   clear g2 K2 hbb
   go_wp2_with fail
   refine K3.out.mono ?_
   rintro e w3 ⟨v3,rfl,g3⟩
   obtain⟨vs,hvs,g4⟩:=(g3.aI (R1:=[_,_]) [0] (by decide) rfl).FW
   generalize (bO b).1=fs at *
   generalize (bO b).2.2=er at *
   generalize (bO b).2.1=nb at *
   obtain⟨Fr,hr⟩:=g4.get 0 rfl
   obtain⟨a3,c3,rfl,-,-,-⟩:=hr.shape
   have d2:w3.cell? ⟨w.heap.size,2,none⟩=some (.slice (some ad) m.aa.length c):=cell_of (g3.block 2 rfl) rfl
   have g5:In F0 w0 w3 (ay 40 3 (.slice a3 fs.length c3) fs.length (flatFr fs vs)::Cells w.heap.size #[.int .i64 m.aj,.int .i64 m.next,.slice (some ad) m.aa.length c] 111::Acc s::(bodiesR vs fs++R)):=by
    have:=g4.perm (List.Perm.cons _ (List.perm_append_comm (l₁:=bodiesR vs fs) (l₂:=Cells w.heap.size #[.int .i64 m.aj,.int .i64 m.next,.slice (some ad) m.aa.length c] 111::Acc s::R)))
    exact this.perm (List.Perm.cons _ (List.Perm.cons _ (List.Perm.cons _ List.perm_append_comm)))
   have HR:Hid (zR μ ef Acc m.aj fs vs s (.slice a3 fs.length c3) w.heap.size #[.int .i64 m.aj,.int .i64 m.next,.slice (some ad) m.aa.length c] F0 w0 R (.int .i64 0) w3):=Lib.hid ⟨0,s,rfl,Nat.zero_le _,Nat.le_refl _,rfl,g5⟩
   have TP:=Lib.hid hvs
   clear g3 g4 g5 hr K3 hvs
   have HQ2:=HQ.out
   clear HQ
   go_upto_region 5 with fail
   go_cut [46] (fun c wx=>c=.bool false∧wx=w3)
   case first=>
    rcases HQ2 with q1 | ⟨q1,q2⟩
    ·go_wp2_with fail
     go_meet
     exact⟨rfl,rfl⟩
    ·go_wp2_with fail
     go_meet
     exact⟨rfl,rfl⟩
   case rest=>
    obtain⟨rfl,rfl⟩:=hcut
    clear HQ2
    go_wp2_with fail
    go_loopw [49] (zR μ ef Acc m.aj fs vs s (.slice a3 fs.length c3) w.heap.size #[.int .i64 m.aj,.int .i64 m.next,.slice (some ad) m.aa.length c] F0 w0 R) (fun k _=>fs.length - (intOf k).toNat)
    case atStart=>exact HR.out
    case round=>
     obtain⟨k,s',rfl,hk,hmu,ht,ho⟩:=hrel
     have YZ:=Lib.hid hmu
     clear hmu
     clear HR d2
     by_cases hlt:k < fs.length
     ·obtain⟨f,hf⟩:∃ f,fs[k]?=some f:=⟨fs[k],List.getElem?_eq_getElem hlt⟩
      obtain⟨v,hv⟩:∃ v,vs[k]?=some v:=⟨vs[k]'(by have:=TP.out;omega),List.getElem?_eq_getElem _⟩
      have hfl:=yw TP.out hf hv
      have HFB:=Lib.hid (HFO.out f (List.mem_of_getElem? hf))
      have hdr:fs.drop k=f::fs.drop (k+1):=by
       obtain⟨a1,rfl⟩:=List.getElem?_eq_some_iff.1 hf
       exact List.drop_eq_getElem_cons a1
      rw [FV hf hv] at ho
      rw [hdr] at ht
      obtain⟨F3,r3⟩:=ho.get 3 rfl
      obtain⟨av,cv,rfl,-,-,-⟩:=ay.shape r3
      obtain⟨F4,r4⟩:=ho.get 0 rfl
      obtain⟨g,rfl,e0⟩:=r4.at.2 _ _ hfl.1
      obtain⟨g',hg',e1⟩:=r4.at.2 _ _ hfl.2.1
      cases hg'
      obtain⟨g',hg',e2⟩:=r4.at.2 _ _ hfl.2.2
      cases hg'
      have dv:(wr.alloc (.cells #[.int .i64 f.kind,.int .i64 f.aj,.slice av f.body.length cv] 40)).cell? ⟨w.heap.size,0,none⟩=some (.int .i64 m.aj):=mY (cell_of (ho.block 1 rfl) rfl)
      have hlt':(k:Int) < (fs.length:Int):=by omega
      have hw2:wrap64 ((k:Int)+1)=(k:Int)+1:=by have:=YY.out;unfold wrap64;omega
      have HO:=Lib.hid (ho.cells #[.int .i64 f.kind,.int .i64 f.aj,.slice av f.body.length cv] 40)
      clear ho hf hv hfl hdr r3 r4
      by_cases mr:f.aj=m.aj
      ·have qv:((f.aj:Int) != (m.aj:Int))=false:=by simp [mr]
       have HT:Hid (tellAll ef m.aj fs s=if (ef s' f).2≠0 then ef s' f else tellAll ef m.aj (fs.drop (k+1)) (ef s' f).1):=Lib.hid (by rw [ht];show (if f.aj≠m.aj then _ else _)=_;rw [if_neg (by simp [mr])])
       clear mr ht
       rcases hE.call with ⟨rfl,hnil⟩|⟨Qr,bound,EI,rfl,hent,hcall⟩
       ·have HR:Hid (zR μ ef Acc m.aj fs vs s (.slice (some ⟨g,0,none⟩) fs.length c3) w.heap.size #[.int .i64 m.aj,.int .i64 m.next,.slice (some ad) m.aa.length c] F0 w0 R (.int .i64 (k+1)) (wr.alloc (.cells #[.int .i64 f.kind,.int .i64 f.aj,.slice av f.body.length cv] 40))):=Lib.hid ⟨k+1,s',by go_num,by omega,by have:=YZ.out;omega,by rw [HT.out,hnil];simp,by
         exact HO.out.drop.aI (R1:=[_,_,_,_]) [0,1,2] (by decide) rfl⟩
        clear HT HO HF HG hnil
        have he:=VB
        go_wp2_with fail
        go_roundw
        case rel=>rw [hw2];exact HR.out
        case measure=>rw [hw2];simp [intOf];omega
       ·have KC:=Lib.hid (hcall F0 w0 _ s' f _ _ (by have:=YZ.out;have:=YY.out;omega) (by have:=HFB.out.body;omega) (HO.out.aI (R1:=[_,_,_,_,_]) [4,3,0,1,2] (by decide) rfl))
        clear HO hcall
        have hgr:=hE.grow s' f
        have HGR:Hid (μ (ef s' f).1≤μ s+(k+1)):=Lib.hid (by have:=YZ.out;omega)
        clear hgr
        generalize ef s' f=r at *
        by_cases hr:r.2=0
        ·have HR:Hid (∀ w',In F0 w0 w' (Acc r.1::Cells wr.heap.size #[.int .i64 f.kind,.int .i64 f.aj,.slice av f.body.length cv] 40::ay 40 3 (.slice (some ⟨g,0,none⟩) fs.length c3) fs.length (flatFr fs vs)::Cells w.heap.size #[.int .i64 m.aj,.int .i64 m.next,.slice (some ad) m.aa.length c] 111::(bodiesR (vs.drop (k+1)) (fs.drop (k+1))++R)) →
          zR μ ef Acc m.aj fs vs s (.slice (some ⟨g,0,none⟩) fs.length c3) w.heap.size #[.int .i64 m.aj,.int .i64 m.next,.slice (some ad) m.aa.length c] F0 w0 R (.int .i64 (k+1)) w'):=Lib.hid fun w' h'=>
          ⟨k+1,r.1,by go_num,by omega,HGR.out,by rw [HT.out,if_neg (by simp [hr])],h'.aI (R1:=[_,_,_,_]) [2,3,0] (by decide) rfl⟩
         have HZ:=Lib.hid hr
         clear hr HT HF HG
         have he:=IP Qr bound EI
         go_wp2_with fail
         refine KC.out.mono ?_
         rintro e w4 ⟨rfl,g4⟩
         rw [HZ.out]
         have HRR:=Lib.hid (HR.out w4 g4)
         clear g4 HR KC
         go_wp2_with fail
         go_roundw
         case rel=>rw [hw2];exact HRR.out
         case measure=>rw [hw2];simp [intOf];omega
        ·have HX:Hid (∀ w',In F0 w0 w' (Acc r.1::Cells wr.heap.size #[.int .i64 f.kind,.int .i64 f.aj,.slice av f.body.length cv] 40::ay 40 3 (.slice (some ⟨g,0,none⟩) fs.length c3) fs.length (flatFr fs vs)::Cells w.heap.size #[.int .i64 m.aj,.int .i64 m.next,.slice (some ad) m.aa.length c] 111::(bodiesR (vs.drop (k+1)) (fs.drop (k+1))++R)) →
          lh Acc (dX ef d m i s) F0 w0 R (.returned (.tuple #[.int .i64 0,.int .i64 r.2])) w'):=Lib.hid fun w' h'=>by
          have e:tellAll ef m.aj fs s=r:=by rw [HT.out,if_pos hr]
          have:=HF.out w' (by rw [e];exact hr) (by rw [e];exact In.mid (bodiesR (vs.drop (k+1)) (fs.drop (k+1))) (h'.aI (R1:=[_,_,_,_]) [0] (by decide) rfl))
          rw [e] at this
          exact this
         have qr:(r.2 != 0)=true:=by rw [bne_iff_ne];exact hr
         clear hr HT HF HG
         have he:=IP Qr bound EI
         go_wp2_with fail
         refine KC.out.mono ?_
         rintro e w4 ⟨rfl,g4⟩
         have Sr:=Lib.hid (HX.out w4 g4)
         clear g4 HX KC
         go_wp2_with fail
         go_ret2
         exact Sr.out
      ·have qv:((f.aj:Int) != (m.aj:Int))=true:=by simp;omega
       have HT:Hid (tellAll ef m.aj fs s=(s',3)):=Lib.hid (by rw [ht];show (if f.aj≠m.aj then _ else _)=_;rw [if_pos mr])
       have HX:=HF.out _ (by rw [HT.out];simp) (by rw [HT.out];exact In.mid (nz (.slice av f.body.length cv) f::bodiesR (vs.drop (k+1)) (fs.drop (k+1))) (HO.out.aI (R1:=[_,_,_,_]) [3] (by decide) rfl))
       rw [HT.out] at HX
       have Sr:=Lib.hid HX
       clear HX HT HO HF HG ht mr
       go_wp2_with fail
       go_ret2
       exact Sr.out
     ·have hge:(fs.length:Int)≤(k:Int):=by omega
      have hkl:fs.drop k=[]:=List.drop_eq_nil_of_le (by omega)
      have HT:tellAll ef m.aj fs s=(s',0):=by rw [ht,hkl];rfl
      have HX:=HG.out _ (by rw [HT]) (by rw [HT];exact In.mid (bodiesR (vs.drop k) (fs.drop k)) (ho.aI (R1:=[_,_,_]) [2] (by decide) rfl))
      have Sr:=Lib.hid HX
      clear HX HT ho HF HG ht hkl hlt
      go_wp2_with fail
      go_ret2
      exact Sr.out
end
def DN (l:bK) (n:Nat) (d:ae):ae×Int:=if n=bytesD d (bA l) then (d,0) else lI d (bA l) n
section
variable {F0:List Nat} {w0 w:World} {R:List az} {bd lb:Nat} {d:ae} {l:bK}
theorem VC (h:In F0 w0 w (eB lb bd l::bJ bd d::R)) (hl:gH l) (ho:d.ops≤99999900) {nb lx db n:Nat} (hn:n≤1000000000) (j k q:Nat) (hj:R[j]?=some (Cells nb #[.int .i64 n] 3)) (hk:R[k]?=some (Cells lx #[aD lb] 28)) (hq:R[q]?=some (Cells db #[aD bd] 26)) :
  Calls Tryz.prog 81 #[.pointer (some ⟨nb,0,none⟩),.pointer (some ⟨lx,0,none⟩),.pointer (some ⟨db,0,none⟩)] w fun e w'=>e=.returned (.int .i64 (DN l n d).2)∧In F0 w0 w' (eB lb bd l::bJ bd (DN l n d).1::R):=by
 have HP:Hid (∀ w' d',In F0 w0 w' (eB lb bd l::bJ bd d'::R)→w'.cell? ⟨nb,0,none⟩=some (.int .i64 n)∧w'.cell? ⟨lx,0,none⟩=some (aD lb)∧w'.cell? ⟨db,0,none⟩=some (aD bd)):=Lib.hid fun w' d' h'=>⟨cell_of (h'.block (j+2) hj) rfl,cell_of (h'.block (k+2) hk) rfl,cell_of (h'.block (q+2) hq) rfl⟩
 have HW:=Lib.hid (HP.out w d h)
 have hb:=mF h.dk (bA l)
 have C1:=Lib.hid (fun w' (h':In F0 w0 w' (eB lb bd l::bJ bd d::R)) n=>yt (h'.drewN n) hl)
 have C2:=Lib.hid (fun w' (h':In F0 w0 w' (eB lb bd l::bJ bd d::R))=>FP h' (bA l) (df _))
 have C3:=Lib.hid (fun w' (h':In F0 w0 w' (eB lb bd l::bJ bd d::R))=>XI h' 1 rfl (by omega) (bA l) (df _) (n:Int))
 have HE:Hid (DN l n d=if n=bytesD d (bA l) then (d,0) else lI d (bA l) n):=Lib.hid rfl
 have H:=Lib.hid h
 clear h hj hk hq hl ho hn
 generalize bytesD d (bA l)=x at *
 by_cases hx:n=x
 ·rw [if_pos hx] at HE
  have qx:((n:Int) == (x:Int))=true:=by simp [hx]
  clear C3 hx
  go_enter Tryz.func81,Tryz.ntmps81
  go_wp2_with fail
  go_region_held3 (fun w'=>w'.cell? ⟨nb,0,none⟩=some (.int .i64 n)∧w'.cell? ⟨lx,0,none⟩=some (aD lb)∧w'.cell? ⟨db,0,none⟩=some (aD bd)) (first | exact HW.out | exact hc2 | exact hc1) (first
   | (go_at_call 74;refine (C1.out _ H.out 1).mono ?_;rintro e w1 ⟨rfl,g1⟩;have hc1:=HP.out w1 _ g1;have K2:=Lib.hid (C2.out w1 g1);clear g1)
   | (go_at_call 73;refine K2.out.mono ?_;rintro e w2 ⟨rfl,g2⟩;have hc2:=HP.out w2 _ g2;have G:=Lib.hid g2;clear g2))
  go_wp2_with fail
  go_ret
  exact⟨by rw [HE.out];rfl,by rw [HE.out];exact G.out⟩
 ·rw [if_neg hx] at HE
  have qx:((n:Int) == (x:Int))=false:=by simp;omega
  clear hx
  go_enter Tryz.func81,Tryz.ntmps81
  go_wp2_with fail
  go_region_held3 (fun w'=>w'.cell? ⟨nb,0,none⟩=some (.int .i64 n)∧w'.cell? ⟨lx,0,none⟩=some (aD lb)∧w'.cell? ⟨db,0,none⟩=some (aD bd)) (first | exact HW.out | exact hc2 | exact hc1) (first
   | (go_at_call 74;refine (C1.out _ H.out 1).mono ?_;rintro e w1 ⟨rfl,g1⟩;have hc1:=HP.out w1 _ g1;have K2:=Lib.hid (C2.out w1 g1);clear g1)
   | (go_at_call 73;refine K2.out.mono ?_;rintro e w2 ⟨rfl,g2⟩;have hc2:=HP.out w2 _ g2;have K3:=Lib.hid (C1.out _ g2 1);clear g2))
  clear K2 hc1 HW H
  go_wp2_with fail
  go_region_held3 (fun w'=>w'.cell? ⟨nb,0,none⟩=some (.int .i64 n)∧w'.cell? ⟨lx,0,none⟩=some (aD lb)∧w'.cell? ⟨db,0,none⟩=some (aD bd)) (first | exact hc2 | exact hc4 | exact hc3) (first
   | (go_at_call 74;refine K3.out.mono ?_;rintro e w3 ⟨rfl,g3⟩;have hc3:=HP.out w3 _ g3;have K4:=Lib.hid (C3.out w3 g3);clear g3)
   | (go_at_call 82;refine K4.out.mono ?_;rintro e w4 ⟨rfl,g4⟩;have hc4:=HP.out w4 _ g4;have G:=Lib.hid g4;clear g4))
  go_wp2_with fail
  go_ret
  exact⟨by rw [HE.out];rfl,by rw [HE.out];exact G.out⟩
theorem VE (h:In F0 w0 w (eB lb bd l::bJ bd d::R)) (hl:gH l) (ho:d.ops≤100000000) {lx db:Nat} (k q:Nat) (hk:R[k]?=some (Cells lx #[aD lb] 28)) (hq:R[q]?=some (Cells db #[aD bd] 26)) :
  Calls Tryz.prog 83 #[.pointer (some ⟨db,0,none⟩),.pointer (some ⟨lx,0,none⟩)] w fun e w'=>e=.returned (.int .i64 (aW d (bA l)).2)∧In F0 w0 w' (eB lb bd l::bJ bd (aW d (bA l)).1::R):=by
 have HP:Hid (∀ w' d',In F0 w0 w' (eB lb bd l::bJ bd d'::R)→w'.cell? ⟨lx,0,none⟩=some (aD lb)∧w'.cell? ⟨db,0,none⟩=some (aD bd)):=Lib.hid fun w' d' h'=>⟨cell_of (h'.block (k+2) hk) rfl,cell_of (h'.block (q+2) hq) rfl⟩
 have HW:=Lib.hid (HP.out w d h)
 have C1:=Lib.hid (fun n=>yt (h.drewN n) hl)
 have C2:=Lib.hid (fun w' (h':In F0 w0 w' (eB lb bd l::bJ bd d::R))=>oU h' 1 rfl ho (bA l) (df _))
 clear h hk hq hl
 go_enter Tryz.func83,Tryz.ntmps83
 go_wp2_with fail
 go_region_held3 (fun w'=>w'.cell? ⟨lx,0,none⟩=some (aD lb)∧w'.cell? ⟨db,0,none⟩=some (aD bd)) (first | exact HW.out | exact hc2 | exact hc1) (first | (go_at_call 74;refine (C1.out 1).mono ?_;rintro e w1 ⟨rfl,g1⟩;have hc1:=HP.out w1 _ g1;have K2:=Lib.hid (C2.out w1 g1);clear g1) | (go_at_call 64;refine K2.out.mono ?_;rintro e w2 ⟨rfl,g2⟩;have hc2:=HP.out w2 _ g2;have G:=Lib.hid g2;clear g2))
 go_wp2_with fail
 go_ret
 exact⟨rfl,G.out⟩
theorem DR (l:bK) (n:Nat) (d:ae):(DN l n d).1.ops≤d.ops+1:=by
 unfold DN;split
 ·show d.ops≤_;omega
 ·have:=(Ex d (bA l) (bA l) [] n).2.2.1;omega
def kr (l:bK) (n:Nat):List (ae→ae×Int):=[DN l n,fun d=>aW d (bA l),bE]
theorem Su {fb nb lx db n:Nat} (hl:gH l) (ho:d.ops≤99999000) (hn:n≤1000000000)
  (fs:List (FuncId×Array Value×Array Value)) (hfs:fs=[(81,#[],#[.pointer (some ⟨nb,0,none⟩),.pointer (some ⟨lx,0,none⟩),.pointer (some ⟨db,0,none⟩)]),(83,#[],#[.pointer (some ⟨db,0,none⟩),.pointer (some ⟨lx,0,none⟩)]),(84,#[aD bd],#[])])
  (h:In F0 w0 w (Cells fb (fs.map AR).toArray 48::eB lb bd l::bJ bd d::Cells lx #[aD lb] 28::Cells nb #[.int .i64 n] 3::Cells db #[aD bd] 26::R)) :
  Calls Tryz.prog 60 #[.slice (some ⟨fb,0,none⟩) 3 3] w fun e w'=>e=.returned (.int .i64 (bM (kr l n) d).2)∧In F0 w0 w' (eB lb bd l::bJ bd (bM (kr l n) d).1::Cells lx #[aD lb] 28::Cells nb #[.int .i64 n] 3::Cells db #[aD bd] 26::R):=by
 have lV:∀ args w',(callFunc 81 args).run Tryz.prog w'=.ok (.enter 81 args) w':=enters_of Tryz.func81 (by kernel_rfl) rfl
 have lW:∀ args w',(callFunc 83 args).run Tryz.prog w'=.ok (.enter 83 args) w':=enters_of Tryz.func83 (by kernel_rfl) rfl
 have uE:∀ args w',(callFunc 84 args).run Tryz.prog w'=.ok (.enter 84 args) w':=enters_of Tryz.func84 (by kernel_rfl) rfl
 have hlen:fs.length=3:=by rw [hfs];rfl
 have key:=EJ (F0:=F0) (w0:=w0) (w:=w) (fun k (s:ae)=>s.ops≤99999000+10 * k)
  (fun s=>eB lb bd l::bJ bd s::Cells lx #[aD lb] 28::Cells nb #[.int .i64 n] 3::Cells db #[aD bd] 26::R) fb 48 (kr l n) fs (by rw [hlen];rfl) (by omega) d 3
  (by omega)
  (fun k f hf s hI=>by
   rcases k with _ | _ | _ | k
   ·cases hf;have:=DR l n s;omega
   ·cases hf;have:=fZ s (bA l);show (aW s (bA l)).1.ops≤_;omega
   ·cases hf;have:=wZ s;omega
   ·simp [kr] at hf)
  (fun f hf=>by
   rw [hfs] at hf
   simp only [List.mem_cons,List.not_mem_nil,or_false] at hf
   rcases hf with rfl | rfl | rfl
   ·exact lV
   ·exact lW
   ·exact uE)
  (fun k f g hf hg w' s hI h'=>by
   rw [hfs] at hf
   rcases k with _ | _ | _ | k
   ·cases hf;cases hg
    have:=VC (h'.aI (R1:=[_,_,_]) [1,2,0] (by decide) rfl) hl (by omega) (nb:=nb) (lx:=lx) (db:=db) hn 2 1 3 rfl rfl rfl
    exact this.mono fun e w'' ⟨he,hw⟩=>⟨he,hw.aI (R1:=[_,_,_]) [2,0,1] (by decide) rfl⟩
   ·cases hf;cases hg
    have:=VE (h'.aI (R1:=[_,_,_]) [1,2,0] (by decide) rfl) hl (by omega) (lx:=lx) (db:=db) 1 3 rfl rfl
    exact this.mono fun e w'' ⟨he,hw⟩=>⟨he,hw.aI (R1:=[_,_,_]) [2,0,1] (by decide) rfl⟩
   ·cases hf;cases hg
    have:=vD h' 2 rfl (by omega)
    exact this
   ·simp at hf) h
 rw [hlen] at key
 exact key.mono fun e w' ⟨he,hw⟩=>⟨he,hw.drop⟩
def OpenPost {σ:Type} (Acc:σ→az) (bd:Nat) (r:σ×ae×Option bK×Int) (F0:List Nat) (w0:World) (R:List az) (e:Ending) (w':World):Prop:=
 match r.2.2.1 with
 | none=>e=.returned (.tuple #[.pointer none,.int .i64 r.2.2.2])∧In F0 w0 w' (Acc r.1::bJ bd r.2.1::R)
 | some l=>∃ lb,e=.returned (.tuple #[aD lb,.int .i64 r.2.2.2])∧In F0 w0 w' (eB lb bd l::Acc r.1::bJ bd r.2.1::R)
theorem IQ {σ:Type} (ef:σ→cB→σ×Int) (size:Int) (d:ae) (s:σ) (b:List UInt8) (hb:gY d bL=some b) (hm:(bD b).2=0) :
  dB ef size d s=if (scanAll ef d (bD b).1 (bD b).1.aa.length 0 0 s).2.2≠0 then ((scanAll ef d (bD b).1 (bD b).1.aa.length 0 0 s).1,d,none,(scanAll ef d (bD b).1 (bD b).1.aa.length 0 0 s).2.2)
   else if (bM (kr ⟨sized size,(bD b).1,false⟩ (scanAll ef d (bD b).1 (bD b).1.aa.length 0 0 s).2.1) d).2≠0 then ((scanAll ef d (bD b).1 (bD b).1.aa.length 0 0 s).1,(bM (kr ⟨sized size,(bD b).1,false⟩ (scanAll ef d (bD b).1 (bD b).1.aa.length 0 0 s).2.1) d).1,none,(bM (kr ⟨sized size,(bD b).1,false⟩ (scanAll ef d (bD b).1 (bD b).1.aa.length 0 0 s).2.1) d).2)
   else ((scanAll ef d (bD b).1 (bD b).1.aa.length 0 0 s).1,(bM (kr ⟨sized size,(bD b).1,false⟩ (scanAll ef d (bD b).1 (bD b).1.aa.length 0 0 s).2.1) d).1,some ⟨sized size,(bD b).1,false⟩,0):=by
 unfold dB
 rw [hb]
 simp only
 rw [if_neg (by rw [hm];simp)]
 rfl
end
theorem BS:∀ (n:Nat) (b:List UInt8),(frScanN n b).2.1≤b.length
 | 0,b=>Nat.zero_le _
 | n+1,b=>by
  unfold frScanN
  split
  ·simp
  ·split
   ·rename_i h1 h2
    have h3:=(nH h2).2.1
    have:=BS n (b.drop (bf b).2.1)
    rw [List.length_drop] at this
    simp only;omega
   ·simp
theorem Ll {σ:Type} {ef:σ→cB→σ×Int} {d:ae} (h:aP d) (m:dw) (i:Nat) (s:σ):(dX ef d m i s).2.1≤1048576:=by
 unfold dX
 cases e:gY d (ai (m.aa.getD i 0)) with
 | none=>simp
 | some b=>
  have hb:b.length≤1048576:=by have:=mF h (ai (m.aa.getD i 0));unfold bytesD at this;rw [e] at this;exact this
  have:=BS b.length b
  simp only
  split
  ·simp
  ·split
   ·simp
   ·show (frScanN b.length b).2.1≤_;omega
theorem BU {b:List UInt8} (h:(bD b).2=0):fM (bD b).1=true:=by
 unfold bD at h ⊢
 split at h
 ·rename_i h1;exact absurd h h1
 ·rename_i h1
  rw [if_neg h1]
  split at h
  ·cases h
  ·rename_i h2
   rw [if_neg h2]
   split at h
   ·cases h
   ·rename_i h3
    rw [if_neg h3]
    simp only at h ⊢
    split at h
    ·rename_i h4
     rw [if_pos h4]
     exact h4.2
    ·cases h
section
variable {F0:List Nat} {w0 w:World} {R:List az} {bd:Nat} {d:ae} {σ:Type} {μ:σ→Nat} {Acc:σ→az} {ef:σ→cB→σ×Int} {ev:Value}
theorem Lm (h:aP d) (hg:∀ s f,μ (ef s f).1≤μ s+1) (m:dw) (i:Nat) (s:σ):μ (dX ef d m i s).1≤μ s+1048576:=by
 unfold dX
 cases e:gY d (ai (m.aa.getD i 0)) with
 | none=>simp
 | some b=>
  have hb:b.length≤1048576:=by have:=mF h (ai (m.aa.getD i 0));unfold bytesD at this;rw [e] at this;exact this
  have h1:=sW b.length b
  have h2:=BR hg m.aj (bO b).1 s
  have h3:(bO b).1.length≤b.length:=h1
  simp only
  split
  ·simp
  ·split
   ·show μ (tellAll ef m.aj (bO b).1 s).1≤_;omega
   ·show μ (tellAll ef m.aj (bO b).1 s).1≤_;omega
abbrev zt (m:dw) (v:Value):Array Value:=#[.int .i64 m.aj,.int .i64 m.next,v]
def FX (Acc:σ→az) (s:σ) (bd db mb:Nat) (d:ae) (l:bK) (v:Value) (F0:List Nat) (w0:World) (R:List az) (x:Value) (wx:World):Prop:=
 ∃ lx lb,x=.pointer (some ⟨lx,0,none⟩)∧In F0 w0 wx (Acc s::Cells lx #[aD lb] 28::ay 3 1 v l.m.aa.length (cz l.m.aa)::Cells lb (xc bd l v) 120::Cells mb (zt l.m v) 111::Cells db #[aD bd] 26::bJ bd d::R)
def FY (μ:σ→Nat) (Acc:σ→az) (ef:σ→cB→σ×Int) (s:σ) (bd db mb lx lb nb:Nat) (d:ae) (l:bK) (v:Value) (F0:List Nat) (w0:World) (R:List az) (i:Value) (wr:World):Prop:=
 ∃ (k:Nat) (s':σ) (n:Nat),i=.int .i64 k∧k≤l.m.aa.length∧n≤1048576∧μ s'≤μ s+k * 1048576∧scanAll ef d l.m l.m.aa.length 0 0 s=scanAll ef d l.m (l.m.aa.length - k) k n s' ∧
  In F0 w0 wr (Acc s'::Cells nb #[.int .i64 n] 3::Cells lx #[aD lb] 28::ay 3 1 v l.m.aa.length (cz l.m.aa)::Cells lb (xc bd l v) 120::Cells mb (zt l.m v) 111::Cells db #[aD bd] 26::bJ bd d::R)
theorem Yq (hE:Lj μ ev Acc ef) (s:σ) (hμ:μ s≤10000000) (h:In F0 w0 w (Acc s::bJ bd d::R)) (ho:d.ops≤99999000) (size:Int) :
  Calls Tryz.prog 20 #[aD bd,.int .i64 size,ev] w (OpenPost Acc bd (dB ef size d s) F0 w0 R):=by
 have h1:=h.cells #[aD bd] 26
 have c0:(w.alloc (.cells #[aD bd] 26)).cell? ⟨w.heap.size,0,none⟩=some (aD bd):=cell_of (h1.block 0 rfl) rfl
 have hdk:aP d:=by
  obtain⟨F,hF⟩:=h.get 1 rfl
  exact hF.1
 have HB:Hid (((gY d bL).getD []).length≤1048576):=Lib.hid (mF hdk bL)
 have C1:=Lib.hid (wR h1 2 rfl bL oV)
 have jJ:Hid (∀ w' x,In F0 w0 w' (Cells w.heap.size #[aD bd] 26::Acc s::bJ bd d::R)→dB ef size d s=(s,d,none,x)→OpenPost Acc bd (dB ef size d s) F0 w0 R (.returned (.tuple #[.pointer none,.int .i64 x])) w'):=Lib.hid fun w' x h' hx=>by
  rw [hx];exact⟨rfl,h'.drop⟩
 have HHO:=Lib.hid ho
 clear h h1 ho
 cases hd:gY d bL with
 | none=>
  have HX:=Lib.hid (fun w' h'=>jJ.out w' 6 h' (by unfold dB;rw [hd]))
  have HD:=Lib.hid hd
  clear hd jJ HB
  go_enter Tryz.func20,Tryz.ntmps20
  go_wp2_with fail
  refine C1.out.mono ?_
  rintro e w1 ⟨v,rfl,g1⟩
  rw [HD.out] at g1 ⊢
  have G:=Lib.hid (HX.out w1 g1.drop)
  clear g1 C1 HX
  go_wp2_with fail
  go_ret2
  exact G.out
 | some b=>
  have HD:=Lib.hid hd
  have Gr:Hid (b.length≤1048576):=Lib.hid (by have:=HB.out;rw [hd] at this;exact this)
  by_cases hm:(bD b).2=0
  ·have HE:=Lib.hid (IQ ef size d s b hd hm)
   have HM:=Lib.hid hm
   have Yr:=Lib.hid (BU hm)
   have HDK:Hid (∀ (m:dw) (i:Nat) (s:σ),(dX ef d m i s).2.1≤1048576):=Lib.hid fun m i s=>Ll hdk m i s
   have HDM:Hid (∀ (m:dw) (i:Nat) (s:σ),μ (dX ef d m i s).1≤μ s+1048576):=Lib.hid fun m i s=>Lm hdk hE.grow m i s
   clear hd jJ HB hm hdk
   go_enter Tryz.func20,Tryz.ntmps20
   go_wp2_with fail
   refine C1.out.mono ?_
   rintro e w1 ⟨v,rfl,g1⟩
   rw [HD.out] at g1 ⊢
   simp only [Option.getD_some,Option.isSome_some] at g1 ⊢
   obtain⟨ab,cb,rfl,hbb⟩:=nJ (b:=b) (i:=0) g1 rfl
   have K2:=Lib.hid (EB g1 hbb (by have:=Gr.out;omega))
   clear g1 C1 hbb
   go_wp2_with fail
   refine K2.out.mono ?_
   rintro e w2 ⟨v,rfl,g2⟩
   rw [HM.out]
   obtain⟨F2,r2⟩:=g2.get 0 rfl
   obtain⟨a2,c2,rfl,-,-,-⟩:=r2.shape
   generalize (bD b).1=m at *
   have g3:=g2.cells (zt m (.slice a2 m.aa.length c2)) 111
   have hdb:w.heap.size < w2.heap.size:=jU (g2.block 2 rfl)
   clear r2 g2 K2 c0
   go_upto_region 9 with fail
   go_cut [12] (fun x wx=>FX Acc s bd w.heap.size w2.heap.size d ⟨sized size,m,false⟩ (.slice a2 m.aa.length c2) F0 w0 R x wx)
   case first=>
    have s0:(w2.alloc (.cells (zt m (.slice a2 m.aa.length c2)) 111)).cell? ⟨w.heap.size,0,none⟩=some (aD bd):=cell_of (g3.block 3 rfl) rfl
    have s1:(w2.alloc (.cells (zt m (.slice a2 m.aa.length c2)) 111)).cell? ⟨w2.heap.size,0,none⟩=some (.int .i64 m.aj):=cell_of (g3.block 0 rfl) rfl
    have s2:(w2.alloc (.cells (zt m (.slice a2 m.aa.length c2)) 111)).cell? ⟨w2.heap.size,1,none⟩=some (.int .i64 m.next):=cell_of (g3.block 0 rfl) rfl
    have s3:(w2.alloc (.cells (zt m (.slice a2 m.aa.length c2)) 111)).cell? ⟨w2.heap.size,2,none⟩=some (.slice a2 m.aa.length c2):=cell_of (g3.block 0 rfl) rfl
    have gA:=((g3.cells (xc bd ⟨sized size,m,false⟩ (.slice a2 m.aa.length c2)) 120).cells #[aD (w2.heap.size+1)] 28).drewN 1
    have gB:=((g3.cells #[aD (w2.heap.size+1+1)] 28).cells (xc bd ⟨sized size,m,false⟩ (.slice a2 m.aa.length c2)) 120).drewN 1
    simp only [World.size_alloc] at gA gB
    have HA:Hid (FX Acc s bd w.heap.size w2.heap.size d ⟨sized size,m,false⟩ (.slice a2 m.aa.length c2) F0 w0 R (.pointer (some ⟨w2.heap.size+1+1,0,none⟩)) _):=Lib.hid ⟨_,_,rfl,gA.aI (R1:=[_,_,_,_,_,_,_,_]) [6,0,3,1,2,5,7] (by decide) rfl⟩
    have HB:Hid (FX Acc s bd w.heap.size w2.heap.size d ⟨sized size,m,false⟩ (.slice a2 m.aa.length c2) F0 w0 R (.pointer (some ⟨w2.heap.size+1,0,none⟩)) _):=Lib.hid ⟨_,_,rfl,gB.aI (R1:=[_,_,_,_,_,_,_,_]) [6,1,3,0,2,5,7] (by decide) rfl⟩
    have n1:¬ w2.heap.size+1=w.heap.size:=by omega
    have n2:¬ w2.heap.size+1+1=w.heap.size:=by omega
    clear gA gB g3 hdb HE
    go_region_held3 (fun w'=>w'.cell? ⟨w.heap.size,0,none⟩=some (aD bd)∧w'.cell? ⟨w2.heap.size,0,none⟩=some (.int .i64 m.aj)∧w'.cell? ⟨w2.heap.size,1,none⟩=some (.int .i64 m.next)∧w'.cell? ⟨w2.heap.size,2,none⟩=some (.slice a2 m.aa.length c2))
     (first | ((refine⟨?_,?_,?_,?_⟩ <;> repeat (first | with_reducible exact s0 | with_reducible exact s1 | with_reducible exact s2 | with_reducible exact s3 | rw [World.cell?_drew] | with_reducible refine mY ?_));done) | go_keep)
     (first | (go_at_call 68;refine (MI size _).mono ?_;rintro e w3 ⟨rfl,rfl⟩))
    all_goals (go_wp2_with fail;go_meet;first | exact HA.out | exact HB.out)
   case rest=>
    obtain⟨lx,lb,rfl,hx⟩:=hcut
    have d2:(wc.alloc (.cells #[.int .i64 0] 3)).cell? ⟨w2.heap.size,2,none⟩=some (.slice a2 m.aa.length c2):=mY (cell_of (hx.block 4 rfl) rfl)
    have g4:=(hx.cells #[.int .i64 0] 3).aI (R1:=[_,_]) [1,0] (by decide) rfl
    have HR:Hid (FY μ Acc ef s bd w.heap.size w2.heap.size lx lb wc.heap.size d ⟨sized size,m,false⟩ (.slice a2 m.aa.length c2) F0 w0 R (.int .i64 0) (wc.alloc (.cells #[.int .i64 0] 3))):=Lib.hid ⟨0,s,0,rfl,Nat.zero_le _,Nat.zero_le _,by omega,rfl,g4⟩
    have Wn:=(bH.1 Yr.out).1
    have hlen:m.aa.length≤64:=Wn.2.2.2.1
    have aaJ:Hid (∀ x∈m.aa,x < 4611686018427387904):=Lib.hid fun x hx=>by have:=dW Yr.out hx;omega
    have aaK:Hid (gH ⟨sized size,m,false⟩):=Lib.hid ⟨(rM size).1,(rM size).2,Yr.out⟩
    clear hx g4 Wn g3 hdb
    go_wp2_with fail
    go_loopw [41] (FY μ Acc ef s bd w.heap.size w2.heap.size lx lb wc.heap.size d ⟨sized size,m,false⟩ (.slice a2 m.aa.length c2) F0 w0 R) (fun k _=>m.aa.length - (intOf k).toNat)
    case atStart=>exact HR.out
    case round=>
     obtain⟨k,s',n,rfl,hk,hn,hmu,ht,ho⟩:=hrel
     have YZ:=Lib.hid hmu
     clear hmu
     clear HR d2
     simp only at hk ht
     by_cases hlt:k < m.aa.length
     ·have C:=Yp hE s' (by have:=YZ.out;omega) ho 6 rfl m (A:=a2) (c:=c2) (fun w' h'=>by obtain⟨F',r'⟩:=h'.get 2 rfl;exact r'.all) k hlt (by omega) aaJ.out
      have e0:wr.cell? ⟨w.heap.size,0,none⟩=some (aD bd):=cell_of (ho.block 6 rfl) rfl
      have e1:wr.cell? ⟨w2.heap.size,0,none⟩=some (.int .i64 m.aj):=cell_of (ho.block 5 rfl) rfl
      have e2:wr.cell? ⟨w2.heap.size,1,none⟩=some (.int .i64 m.next):=cell_of (ho.block 5 rfl) rfl
      have e3:wr.cell? ⟨w2.heap.size,2,none⟩=some (.slice a2 m.aa.length c2):=cell_of (ho.block 5 rfl) rfl
      have hr9:=HDK.out m k s'
      have HGR:Hid (μ (dX ef d m k s').1≤μ s+(k+1) * 1048576):=Lib.hid (by have:=YZ.out;have:=HDM.out m k s';omega)
      have hstep:scanAll ef d m (m.aa.length - k) k n s'=if (dX ef d m k s').2.2≠0 then dX ef d m k s' else scanAll ef d m (m.aa.length - (k+1)) (k+1) (dX ef d m k s').2.1 (dX ef d m k s').1:=by
       rw [show m.aa.length - k=(m.aa.length - (k+1))+1 by omega];rfl
      rw [hstep] at ht
      unfold iM at C
      have KC:=Lib.hid C
      have hlt':(k:Int) < (m.aa.length:Int):=by omega
      have hw2:wrap64 ((k:Int)+1)=(k:Int)+1:=by unfold wrap64;omega
      clear C ho hstep
      generalize dX ef d m k s'=r at *
      by_cases hr:r.2.2=0
      ·have HRR:Hid (∀ w',In F0 w0 w' (Acc r.1::Cells wc.heap.size #[.int .i64 r.2.1] 3::Cells lx #[aD lb] 28::ay 3 1 (.slice a2 m.aa.length c2) m.aa.length (cz m.aa)::Cells lb (xc bd ⟨sized size,m,false⟩ (.slice a2 m.aa.length c2)) 120::Cells w2.heap.size (zt m (.slice a2 m.aa.length c2)) 111::Cells w.heap.size #[aD bd] 26::bJ bd d::R) →
         FY μ Acc ef s bd w.heap.size w2.heap.size lx lb wc.heap.size d ⟨sized size,m,false⟩ (.slice a2 m.aa.length c2) F0 w0 R (.int .i64 ((k:Int)+1)) w'):=Lib.hid fun w' h'=>
        ⟨k+1,r.1,r.2.1,by go_num,hlt,hr9,HGR.out,by rw [ht,if_neg (by simp [hr])],h'⟩
       have HZ:=Lib.hid hr
       clear hr ht HE
       go_wp2_with fail
       refine KC.out.mono ?_
       rintro e w4 ⟨rfl,g4⟩
       rw [HZ.out]
       have dn:w4.cell? ⟨wc.heap.size,0,none⟩=some (.int .i64 n):=cell_of (g4.block 1 rfl) rfl
       have fn:w4.frozen? ⟨wc.heap.size,0,none⟩=false:=aL (g4.block 1 rfl)
       have HX:=Lib.hid (HRR.out _ (g4.put 1 rfl 0 (.int .i64 r.2.1)))
       clear g4 HRR KC
       go_wp2_with fail
       go_roundw
       case rel=>first | exact HX.out | (rw [hw2];exact HX.out)
       case measure=>first | (rw [hw2];simp [intOf];omega) | (simp [intOf];omega)
      ·have HX:Hid (∀ w',In F0 w0 w' (Acc r.1::Cells wc.heap.size #[.int .i64 r.2.1] 3::Cells lx #[aD lb] 28::ay 3 1 (.slice a2 m.aa.length c2) m.aa.length (cz m.aa)::Cells lb (xc bd ⟨sized size,m,false⟩ (.slice a2 m.aa.length c2)) 120::Cells w2.heap.size (zt m (.slice a2 m.aa.length c2)) 111::Cells w.heap.size #[aD bd] 26::bJ bd d::R) →
         OpenPost Acc bd (dB ef size d s) F0 w0 R (.returned (.tuple #[.pointer none,.int .i64 r.2.2])) w'):=Lib.hid fun w' h'=>by
        have e:scanAll ef d m m.aa.length 0 0 s=r:=by rw [ht,if_pos hr]
        rw [HE.out,e,if_pos hr]
        exact⟨rfl,h'.aI (R1:=[_,_,_,_,_,_,_,_]) [0,7] (by decide) rfl⟩
       have qr:(r.2.2 != 0)=true:=by rw [bne_iff_ne];exact hr
       clear hr ht HE
       go_wp2_with fail
       refine KC.out.mono ?_
       rintro e w4 ⟨rfl,g4⟩
       have dn:w4.cell? ⟨wc.heap.size,0,none⟩=some (.int .i64 n):=cell_of (g4.block 1 rfl) rfl
       have fn:w4.frozen? ⟨wc.heap.size,0,none⟩=false:=aL (g4.block 1 rfl)
       have Sr:=Lib.hid (HX.out _ (g4.put 1 rfl 0 (.int .i64 r.2.1)))
       clear g4 HX KC
       go_wp2_with fail
       go_ret2
       exact Sr.out
     ·have hge:(m.aa.length:Int)≤(k:Int):=by omega
      have e:scanAll ef d m m.aa.length 0 0 s=(s',n,0):=by rw [ht,show m.aa.length - k=0 by omega];rfl
      rw [e] at HE
      have HE2:Hid (dB ef size d s=if (bM (kr ⟨sized size,m,false⟩ n) d).2≠0 then (s',(bM (kr ⟨sized size,m,false⟩ n) d).1,none,(bM (kr ⟨sized size,m,false⟩ n) d).2) else (s',(bM (kr ⟨sized size,m,false⟩ n) d).1,some ⟨sized size,m,false⟩,0)):=Lib.hid (by rw [HE.out,if_neg (by simp)])
      have e0:wr.cell? ⟨w.heap.size,0,none⟩=some (aD bd):=cell_of (ho.block 6 rfl) rfl
      have g5:=ho.cells #[.func (.func 81) #[] #[.pointer (some ⟨wc.heap.size,0,none⟩),.pointer (some ⟨lx,0,none⟩),.pointer (some ⟨w.heap.size,0,none⟩)],.func (.func 83) #[] #[.pointer (some ⟨w.heap.size,0,none⟩),.pointer (some ⟨lx,0,none⟩)],.func (.func 84) #[aD bd] #[]] 48
      have g6:In F0 w0 _ (eB lb bd ⟨sized size,m,false⟩::_):=In.nE (l':=⟨sized size,m,false⟩) (v:=.slice a2 m.aa.length c2) (g5.aI (R1:=[_,_,_,_,_,_,_,_,_]) [4,5,0,8,3,2,7,1,6] (by decide) rfl)
      have K:=Su (R:=Acc s'::Cells w2.heap.size (zt m (.slice a2 m.aa.length c2)) 111::R) (nb:=wc.heap.size) (lx:=lx) (db:=w.heap.size) (fb:=wr.heap.size) aaK.out HHO.out (show n≤1000000000 by omega) _ rfl (g6.aI (R1:=[_,_]) [1,0] (by decide) rfl)
      have KH:=Lib.hid K
      clear K g5 g6 ho ht e HE
      generalize bM (kr ⟨sized size,m,false⟩ n) d=r at *
      by_cases hr:r.2=0
      ·have HX:Hid (∀ w',In F0 w0 w' (eB lb bd ⟨sized size,m,false⟩::bJ bd r.1::Cells lx #[aD lb] 28::Cells wc.heap.size #[.int .i64 n] 3::Cells w.heap.size #[aD bd] 26::Acc s'::Cells w2.heap.size (zt m (.slice a2 m.aa.length c2)) 111::R) →
         OpenPost Acc bd (dB ef size d s) F0 w0 R (.returned (.tuple #[aD lb,.int .i64 0])) w'):=Lib.hid fun w' h'=>by
        rw [HE2.out,if_neg (by simp [hr])]
        exact⟨lb,rfl,h'.aI (R1:=[_,_,_,_,_,_,_]) [0,5,1] (by decide) rfl⟩
       have HZ:=Lib.hid hr
       clear hr HE2
       go_wp2_with fail
       refine KH.out.mono ?_
       rintro e w4 ⟨rfl,g4⟩
       rw [HZ.out]
       have dl:w4.cell? ⟨lx,0,none⟩=some (aD lb):=cell_of (g4.block 2 rfl) rfl
       have Sr:=Lib.hid (HX.out w4 g4)
       clear g4 HX KH
       go_wp2_with fail
       go_ret2
       exact Sr.out
      ·have HX:Hid (∀ w',In F0 w0 w' (eB lb bd ⟨sized size,m,false⟩::bJ bd r.1::Cells lx #[aD lb] 28::Cells wc.heap.size #[.int .i64 n] 3::Cells w.heap.size #[aD bd] 26::Acc s'::Cells w2.heap.size (zt m (.slice a2 m.aa.length c2)) 111::R) →
         OpenPost Acc bd (dB ef size d s) F0 w0 R (.returned (.tuple #[.pointer none,.int .i64 r.2])) w'):=Lib.hid fun w' h'=>by
        rw [HE2.out,if_pos hr]
        exact⟨rfl,h'.aI (R1:=[_,_,_,_,_,_,_]) [5,1] (by decide) rfl⟩
       have qr:(r.2 != 0)=true:=by rw [bne_iff_ne];exact hr
       clear hr HE2
       go_wp2_with fail
       refine KH.out.mono ?_
       rintro e w4 ⟨rfl,g4⟩
       have Sr:=Lib.hid (HX.out w4 g4)
       clear g4 HX KH
       go_wp2_with fail
       go_ret2
       exact Sr.out
  ·have HX:=Lib.hid (fun w' h'=>jJ.out w' (bD b).2 h' (by unfold dB;rw [hd];simp only;rw [if_pos hm]))
   have qm:((bD b).2 != 0)=true:=by rw [bne_iff_ne];exact hm
   clear hd jJ HB hm
   go_enter Tryz.func20,Tryz.ntmps20
   go_wp2_with fail
   refine C1.out.mono ?_
   rintro e w1 ⟨v,rfl,g1⟩
   rw [HD.out] at g1 ⊢
   simp only [Option.getD_some,Option.isSome_some] at g1 ⊢
   obtain⟨ab,cb,rfl,hbb⟩:=nJ (b:=b) (i:=0) g1 rfl
   have K2:=Lib.hid (EB g1 hbb (by have:=Gr.out;omega))
   clear g1 C1 hbb
   go_wp2_with fail
   refine K2.out.mono ?_
   rintro e w2 ⟨v,rfl,g2⟩
   obtain⟨F2,r2⟩:=g2.get 0 rfl
   obtain⟨a2,c2,rfl,-,-,-⟩:=r2.shape
   have G:=Lib.hid (HX.out _ ((g2.alloc (.cells #[.int .i64 (bD b).1.aj,.int .i64 (bD b).1.next,.slice a2 (bD b).1.aa.length c2] 111)).drop.drop))
   clear g2 r2 K2 HX
   go_wp2_with fail
   go_ret2
   exact G.out
end
def aa3 (vb:Nat) (fs:List cB):az:=fun w F=>∃ v,Star [Cells vb #[v] 33,uU v fs] w F
section
variable {F0:List Nat} {w0 w:World} {R:List az}
abbrev aa4 (s:List cB) (f:cB):List cB×Int:=(s++[f],0)
end
section
variable {F0:List Nat} {w0 w:World} {R:List az} {bd lb:Nat} {l:bK}
theorem qJ (h:In F0 w0 w (eB lb bd l::R)):Calls Tryz.prog 22 #[aD lb] w fun e w'=>e=.returned (.int .i64 l.m.aj)∧w'=w:=by
 obtain⟨a,c,h1⟩:=h.lX
 have c2:w.cell? ⟨lb,2,none⟩=some (.int .i64 l.m.aj):=cell_of (h1.block 1 rfl) rfl
 clear h h1
 go_enter Tryz.func22,Tryz.ntmps22
 go_wp2_with fail
 go_ret
 exact⟨rfl,rfl⟩
def isX (f:cB):Bool:=decide (f.body=[120])
def aaL (vb:Nat) (n:Nat):az:=Cells vb #[.int .i64 n] 3
def Yt (n:Nat) (f:cB):Nat×Int:=(if isX f then n+1 else n,0)
end
end Go.Proofs.YtogclkhpbjfadaaGreat
