/- Parts of the proofs that a compaction keeps what lives, and done again is as once. -/
import Derived.Test.YtogclkhpbjfadaaGreatCK19
import Derived.Test.YtogclkhpbjfadaaGreatCK15
import Derived.Test.YtogclkhpbjfadaaGreatCK6
import Derived.Test.YtogclkhpbjfadaaGreatCK12
import Derived.BigQuiet
import Derived.Deep.QuietTactic
namespace Go.Proofs.YtogclkhpbjfadaaGreat
open Go.RowKit
open Go.Maps (Keyed)
set_option linter.unusedVariables false
set_option maxHeartbeats 64000000
set_option maxRecDepth 100000
theorem zM:Keyed Tryz.prog 3:=Maps.int_keyed Tryz.underlying3
abbrev IA (x:Fl):Value:=.agg (dH x.t)
abbrev XR (x:Fl):Value:=.agg (eG x)
abbrev Cs (b:Nat) (L:List Fl):az:=ji Tryz.prog 65 IA XR b L
abbrev WB (x:Int×Int):Value:=.int .i64 x.1
abbrev sdV (x:Int×Int):Value:=.int .i64 x.2
abbrev zN (b:Nat) (L:List (Int×Int)):az:=ji Tryz.prog 3 WB sdV b L
abbrev Js (s:fP) (bv:Value) (dm fm:Nat):Array Value:=#[.int .i64 s.gen,bv,.map (some dm),.map (some fm)]
def UR (sb dm fm:Nat) (bv:Value) (s:fP):List az:=[Cells sb (Js s bv dm fm) 157,gG bv s.ax,zN dm s.bN,Cs fm s.bU]
theorem UR.aA {sb dm fm:Nat} {bv:Value} {s:fP}:∀ A∈UR sb dm fm bv s,bC A:=by
 intro A hA
 simp only [UR,List.mem_cons,List.not_mem_nil,or_false] at hA
 rcases hA with rfl | rfl | rfl | rfl
 ·exact Cells.aA _ _ _
 ·exact ay.aA _ _ _ _ _
 ·exact ji.aA _ _
 ·exact ji.aA _ _
def iH (sb:Nat) (s:fP):az:=fun w F=>∃ dm fm bv,fU s∧Star (UR sb dm fm bv s) w F
theorem iH.aA (sb:Nat) (s:fP):bC (iH sb s):=by
 refine⟨?_,?_⟩
 ·rintro w w' F ⟨dm,fm,bv,h1,h2⟩ hk;exact⟨dm,fm,bv,h1,(bC.star UR.aA).keep h2 hk⟩
 ·rintro w F ⟨dm,fm,bv,h1,h2⟩;exact (bC.star UR.aA).lt h2
theorem vE {w:World}:∀ {A1 R:List az} {F1 F2:List Nat},Star A1 w F1→Star R w F2→Apart F1 F2→Star (A1++R) w (F1++F2)
 | [],R,F1,F2,h1,h2,_=>by obtain rfl:F1=[]:=h1;simpa using h2
 | A::A1,R,F1,F2,⟨G1,G2,g1,g2,g3,e⟩,h2,h3=>by
  refine⟨G1,G2++F2,g1,vE g2 h2 (fun b hb=>h3 b (by rw [e];exact List.mem_append_right _ hb)),fun b hb hb2=>?_,by rw [e,List.append_assoc]⟩
  rcases List.mem_append.1 hb2 with hb2 | hb2
  ·exact g3 b hb hb2
  ·exact h3 b (by rw [e];exact List.mem_append_left _ hb) hb2
section
variable {F0:List Nat} {w0 w:World} {R:List az} {sb:Nat} {s:fP}
theorem In.ny (h:In F0 w0 w (iH sb s::R)):fU s∧∃ dm fm a c,In F0 w0 w (Cells sb (Js s (.slice a s.ax.length c) dm fm) 157::gG (.slice a s.ax.length c) s.ax::zN dm s.bN::Cs fm s.bU::R):=by
 obtain⟨F,⟨F1,F2,⟨dm,fm,bv,hok,h1⟩,h2,h3,rfl⟩,hF⟩:=h.star
 have h4:In F0 w0 w (UR sb dm fm bv s++R):=by
  refine⟨fun B hB=>?_,⟨_,vE h1 h2 h3,hF⟩,h.mod⟩
  rcases List.mem_append.1 hB with hB | hB
  ·exact UR.aA _ hB
  ·exact h.aA B (List.mem_cons_of_mem _ hB)
 obtain⟨Fv,rv⟩:=h4.get 1 rfl
 obtain⟨a,c,rfl,-,-,-⟩:=ay.shape rv
 exact⟨hok,dm,fm,a,c,h4⟩
theorem In.lT {dm fm:Nat} {bv:Value} (hok:fU s) (h:In F0 w0 w (Cells sb (Js s bv dm fm) 157::gG bv s.ax::zN dm s.bN::Cs fm s.bU::R)):In F0 w0 w (iH sb s::R):=
 (In.join (A1:=UR sb dm fm bv s) (R:=R) h).imp (A':=iH sb s) 0 rfl (iH.aA _ _) (fun F hF=>⟨dm,fm,bv,hok,hF⟩)
theorem zO (h:In F0 w0 w R):Calls Tryz.prog 48 #[] w fun e w'=>∃ sb,e=.returned (pR sb)∧In F0 w0 w' (iH sb aJ::R):=by
 have h1:=wI h Tryz.prog 3 WB sdV
 have h2:=wI h1 Tryz.prog 65 IA XR
 have e1:(w.alloc (Obj.map #[] 0)).heap.size=w.heap.size+1:=Array.size_push _
 have e2:((w.alloc (Obj.map #[] 0)).alloc (Obj.map #[] 0)).heap.size=w.heap.size+1+1:=by rw [show ((w.alloc (Obj.map #[] 0)).alloc (Obj.map #[] 0)).heap.size=(w.alloc (Obj.map #[] 0)).heap.size+1 from Array.size_push _,e1]
 have h3:=(h2.cells #[.int .i64 0,.slice none 0 0,.map (some w.heap.size),.map (some (w.heap.size+1))] 157).dG 160 3
 rw [e1,e2] at h3
 have HF:=Lib.hid (In.lT (s:=aJ) fU.zero (In.aI (R1:=[_,_,_,_]) (R2:=R) h3 [1,0,3,2] (by decide) rfl))
 clear h h1 h2 h3 e1 e2
 have hmm:=@run_makeMap Tryz.prog
 go_enter Tryz.func48,Tryz.ntmps48
 go_wp2_with fail
 go_ret
 exact⟨_,rfl,HF.out⟩
/-! ### The maps -/
theorem FD {x y:Fl} (h:IA x=IA y):x.t=y.t:=by
 obtain⟨⟨a1,a2,a3,a4,a5⟩,_,_,_⟩:=x
 obtain⟨⟨b1,b2,b3,b4,b5⟩,_,_,_⟩:=y
 simp [IA,dH] at h
 simp [h]
theorem uk {L:List Fl} (h:oF L):(L.map IA).Nodup:=by
 unfold List.Nodup
 rw [List.pairwise_map]
 refine List.Pairwise.imp (fun {x y} hl e=>?_) h
 rw [FD e,iq] at hl;cases hl
theorem um {L:List (Int×Int)} (h:pX L):(L.map WB).Nodup:=by
 unfold List.Nodup
 rw [List.pairwise_map]
 refine List.Pairwise.imp (fun {x y} hl e=>?_) h
 simp only [WB,Value.int.injEq,true_and] at e
 omega
theorem Ku (w:World):(zeroValue 67).run Tryz.prog w=.ok (.agg (eG aQ)) w:=by kernel_rfl
variable {fm dm:Nat} {L:List Fl} {M:List (Int×Int)}
theorem Mt {t:rU} {x:Fl}:decide (x.t≠t)=true↔IA x≠.agg (dH t):=by
 rw [decide_eq_true_eq]
 exact⟨fun h e=>h (FD (y:=⟨t,0,0,0⟩) e),fun h e=>h (by rw [← e])⟩
theorem XT (h:In F0 w0 w R) (i:Nat) (hA:R[i]?=some (Cs fm L)) (hs:oF L) {f:Fl} (wt:Gy f.t):∃ w',(Instr.mapUpdate 155 (.map (some fm)) (.agg (dH f.t)) (.agg (eG f))).run Tryz.prog w=.ok () w'∧xC fm w w'∧In F0 w0 w' (R.set i (Cs fm (stPutF f L))):=by
 obtain⟨kl,hkl⟩:=yl wt
 obtain⟨w',h1,h2,h3⟩:=EU h i hA Kr Tryz.underlying155 f hkl (uk hs) (fun x=>decide (x.t≠f.t)) (fun x _=>Mt)
 have hi:=(List.getElem?_eq_some_iff.1 hA).1
 have:=Bh (L':=stPutF f L) h3 i (by rw [List.getElem?_set_self hi];rfl) (yI hs)
 rw [List.set_set] at this
 exact⟨w',h1,h2,this⟩
theorem XU (h:In F0 w0 w R) (i:Nat) (hA:R[i]?=some (Cs fm L)) (hs:oF L) {t:rU} (wt:Gy t) (k2 ty:TypeId):∃ w',(Builtin.delete_ #[155,k2] ty #[.map (some fm),.agg (dH t)]).run Tryz.prog w=.ok (.tuple #[]) w'∧xC fm w w'∧In F0 w0 w' (R.set i (Cs fm (kH t L))):=by
 obtain⟨kl,hkl⟩:=yl wt
 exact EW h i hA Kr Tryz.underlying155 hkl (uk hs) (fun x=>decide (x.t≠t)) (fun x _=>Mt) k2 ty
theorem XV (h:In F0 w0 w R) (i:Nat) (hA:R[i]?=some (zN dm M)) (hs:pX M) {b:Int} (hb:(Lit.int .i64 b).wf=true) (u:Int):∃ w',(Instr.mapUpdate 154 (.map (some dm)) (.int .i64 b) (.int .i64 u)).run Tryz.prog w=.ok () w'∧xC dm w w'∧In F0 w0 w' (R.set i (zN dm (stPutD b u M))):=by
 obtain⟨w',h1,h2,h3⟩:=EU h i hA zM Tryz.underlying154 (b,u) (Maps.keyOf_int_mk Tryz.underlying3 hb) (um hs) (fun x=>decide (x.1≠b)) (fun x _=>by simp [WB])
 have hi:=(List.getElem?_eq_some_iff.1 hA).1
 have:=Bh (L':=stPutD b u M) h3 i (by rw [List.getElem?_set_self hi];rfl) (yK hs)
 rw [List.set_set] at this
 exact⟨w',h1,h2,this⟩
theorem XW (h:In F0 w0 w R) (i:Nat) (hA:R[i]?=some (zN dm M)) (hs:pX M) {b:Int} (hb:(Lit.int .i64 b).wf=true) (k2 ty:TypeId):∃ w',(Builtin.delete_ #[154,k2] ty #[.map (some dm),.int .i64 b]).run Tryz.prog w=.ok (.tuple #[]) w'∧xC dm w w'∧In F0 w0 w' (R.set i (zN dm (kI b M))):=
 EW h i hA zM Tryz.underlying154 (Maps.keyOf_int_mk Tryz.underlying3 hb) (um hs) (fun x=>decide (x.1≠b)) (fun x _=>by simp [WB]) k2 ty
end
def sU (t:rU) (L:List Fl):Fl:=(L.find? (fun x=>decide (x.t=t))).getD aQ
def vF (b:Int) (L:List (Int×Int)):Int:=((L.find? (fun x=>decide (x.1=b))).map (·.2)).getD 0
section
variable {F0:List Nat} {w0 w:World} {R:List az} {sb:Nat} {s:fP} {fm dm:Nat} {L:List Fl} {M:List (Int×Int)}
theorem NL (hs:oF L) {x:Fl} (hx:x∈L):sU x.t L=x:=by
 unfold sU
 cases e:L.find? (fun y=>decide (y.t=x.t)) with
 | none=>have:=List.find?_eq_none.1 e x hx;simp at this
 | some y=>
  have h1:=List.find?_some e
  have h2:=List.mem_of_find?_eq_some e
  simp only [decide_eq_true_eq] at h1
  exact EY (uk hs) h2 hx (show IA y=IA x by simp only [IA,h1])
theorem NM (hs:pX M) {x:Int×Int} (hx:x∈M):vF x.1 M=x.2:=by
 unfold vF
 cases e:M.find? (fun y=>decide (y.1=x.1)) with
 | none=>have:=List.find?_eq_none.1 e x hx;simp at this
 | some y=>
  have h1:=List.find?_some e
  have h2:=List.mem_of_find?_eq_some e
  simp only [decide_eq_true_eq] at h1
  have:y=x:=EY (um hs) h2 hx (by simp only [WB,h1])
  rw [this];rfl
theorem NN {t:rU} (h:∀ x∈L,x.t≠t):sU t L=aQ:=by
 unfold sU
 rw [List.find?_eq_none.2 (fun x hx=>by simpa using h x hx)];rfl
theorem NP {b:Int} (h:∀ x∈M,x.1≠b):vF b M=0:=by
 unfold vF
 rw [List.find?_eq_none.2 (fun x hx=>by simpa using h x hx)];rfl
theorem RD (h:In F0 w0 w R) (i:Nat) (hA:R[i]?=some (Cs fm L)) (hs:oF L) {t:rU} (wt:Gy t):(Instr.lookup 155 (.map (some fm)) (.agg (dH t)) true).run Tryz.prog w=.ok (.tuple #[.agg (eG (sU t L)),.bool (jY t L)]) w:=by
 obtain⟨kl,hkl⟩:=yl wt
 rcases wH h i hA Kr Tryz.underlying155 (Ku w) hkl true with ⟨x,hx,e,hr⟩|⟨hn,hr⟩
 ·have e2:x.t=t:=FD (y:=⟨t,0,0,0⟩) e
  have:jY t L=true:=qW.2 ⟨x,hx,e2⟩
  rw [this,← e2,NL hs hx];rw [e2];exact hr
 ·have hn2:∀ x∈L,x.t≠t:=fun x hx e=>hn x hx (by rw [← e])
  have:jY t L=false:=by
   cases e:jY t L with
   | false=>rfl
   | true=>obtain⟨x,hx,e⟩:=qW.1 e;exact absurd e (hn2 x hx)
  rw [this,NN hn2];exact hr
theorem XX (h:In F0 w0 w R) (i:Nat) (hA:R[i]?=some (zN dm M)) (hs:pX M) {b:Int} (hb:(Lit.int .i64 b).wf=true):(Instr.lookup 154 (.map (some dm)) (.int .i64 b) true).run Tryz.prog w=.ok (.tuple #[.int .i64 (vF b M),.bool (kJ b M)]) w:=by
 rcases wH h i hA zM Tryz.underlying154 (z:=.int .i64 0) (by kernel_rfl) (Maps.keyOf_int_mk Tryz.underlying3 hb) true with ⟨x,hx,e,hr⟩|⟨hn,hr⟩
 ·simp only [WB,Value.int.injEq,true_and] at e
  have:kJ b M=true:=qX.2 ⟨x,hx,e⟩
  rw [this,← e,NM hs hx];rw [e];exact hr
 ·have hn2:∀ x∈M,x.1≠b:=fun x hx e=>hn x hx (by rw [← e])
  have:kJ b M=false:=by
   cases e:kJ b M with
   | false=>rfl
   | true=>obtain⟨x,hx,e⟩:=qX.1 e;exact absurd e (hn2 x hx)
  rw [this,NP hn2];exact hr
def kP (b:Bool) (sb:Nat) (s:fP) (F0:List Nat) (w0:World) (R:List az) (e:Ending) (w':World):Prop:=e=.returned (.bool b)∧In F0 w0 w' (iH sb s::R)
theorem UT {r:Rec} {A:Option Addr} {c:Nat} (k1:r.kind≠1) (k4:r.kind≠4) (h:In F0 w0 w (iH sb s::R)):Calls Tryz.prog 134 #[pR sb,uy r A c] w (kP false sb s F0 w0 R):=by
 have HH:=Lib.hid fun o=>h.alloc o
 have q1:(r.kind == 1)=false:=beq_eq_false_iff_ne.2 k1
 have q4:(r.kind == 4)=false:=beq_eq_false_iff_ne.2 k4
 clear h k1 k4
 obtain⟨kind,⟨⟨src,dst,proto,ag,ah⟩,bI,aG,au⟩,gen,ax,bk,till,count⟩:=r
 simp only at q1 q4
 go_enter Tryz.func134,Tryz.ntmps134
 go_wp2_with fail
 go_ret
 exact⟨rfl,HH.out _⟩
theorem UU {fl:Fl} {gen bk till count:Int} {ax:List Bk} {A:Option Addr} {c:Nat} (hb:(Lit.int .i64 bk).wf=true) (h:In F0 w0 w (iH sb s::R)):Calls Tryz.prog 134 #[pR sb,uy ⟨4,fl,gen,ax,bk,till,count⟩ A c] w (kP (!kJ bk s.bN && decide (16≤s.bN.length)) sb s F0 w0 R):=by
 obtain⟨⟨src,dst,proto,ag,ah⟩,bI,aG,au⟩:=fl
 obtain⟨hok,dm,fm,a,c',h1⟩:=h.ny
 obtain⟨w1,hw1⟩:∃ w1,w1=w.alloc (.cells #[.int .i64 4,.int .u32 src,.int .u32 dst,.int .i64 proto,.int .i64 ag,.int .i64 ah,.int .i64 bI,.int .i64 aG,.int .i64 au,.int .i64 gen,.slice A ax.length c,.int .i64 bk,.int .i64 till,.int .i64 count] 69):=⟨_,rfl⟩
 have h2:=h1.cells #[.int .i64 4,.int .u32 src,.int .u32 dst,.int .i64 proto,.int .i64 ag,.int .i64 ah,.int .i64 bI,.int .i64 aG,.int .i64 au,.int .i64 gen,.slice A ax.length c,.int .i64 bk,.int .i64 till,.int .i64 count] 69
 rw [← hw1] at h2
 have c0:w1.cell? ⟨sb,2,none⟩=some (.map (some dm)):=cell_of (h2.block 1 rfl) rfl
 have c1:w1.cell? ⟨w.heap.size,11,none⟩=some (.int .i64 bk):=cell_of (h2.block 0 rfl) rfl
 have l0:∀ n,(Instr.lookup 154 (.map (some dm)) (.int .i64 bk) true).run Tryz.prog (w1.drewN n)=.ok (.tuple #[.int .i64 (vF bk s.bN),.bool (kJ bk s.bN)]) (w1.drewN n):=fun n=>XX (h2.drewN n) 3 rfl hok.CO hb
 have l1:∀ n ty,(Builtin.len_ #[154] ty #[.map (some dm)]).run Tryz.prog (w1.drewN n)=.ok (.int .i64 s.bN.length) (w1.drewN n):=fun n ty=>EX (h2.drewN n) 3 rfl Tryz.underlying154 ty
 have HF:=Lib.hid (fun n=>In.lT hok (h2.drewN n).drop)
 have HW:=Lib.hid hw1
 have HL:Hid (s.bN.length < 16∨16≤s.bN.length):=Lib.hid (by omega)
 clear h h1 h2 hb hok hw1
 generalize kJ bk s.bN=q at *
 generalize vF bk s.bN=u at *
 go_enter Tryz.func134,Tryz.ntmps134
 go_wp2_with fail
 rw [← HW.out]
 go_quiet (fail)
 cases q with
 | true=>
  go_wp2_with fail
  go_ret
  exact⟨rfl,HF.out _⟩
 | false=>
  rcases HL.out with hl | hl
  ·have H1:decide (16≤s.bN.length)=false:=decide_eq_false (by omega)
   have H2:decide ((16:Int)≤(s.bN.length:Int))=false:=decide_eq_false (by omega)
   have HP:Hid (kP (!false && decide (16≤s.bN.length)) sb s F0 w0 R (.returned (.bool false)) (w1.drewN nq)):=Lib.hid ⟨by rw [H1];rfl,HF.out nq⟩
   clear hl H1
   go_wp2_with fail
   go_ret
   exact HP.out
  ·have H1:decide (16≤s.bN.length)=true:=decide_eq_true hl
   have H2:decide ((16:Int)≤(s.bN.length:Int))=true:=decide_eq_true (by omega)
   have HP:Hid (kP (!false && decide (16≤s.bN.length)) sb s F0 w0 R (.returned (.bool true)) (w1.drewN nq)):=Lib.hid ⟨by rw [H1];rfl,HF.out nq⟩
   clear hl H1
   go_wp2_with fail
   go_ret
   exact HP.out
theorem UW {src dst proto ag ah bI aG au gen bk till count:Int} {ax:List Bk} {A:Option Addr} {c:Nat} (wt:Gy ⟨src,dst,proto,ag,ah⟩) (h:In F0 w0 w (iH sb s::R)):Calls Tryz.prog 134 #[pR sb,uy ⟨1,⟨⟨src,dst,proto,ag,ah⟩,bI,aG,au⟩,gen,ax,bk,till,count⟩ A c] w (kP (!jY ⟨src,dst,proto,ag,ah⟩ s.bU && decide (256≤s.bU.length)) sb s F0 w0 R):=by
 obtain⟨hok,dm,fm,a,c',h1⟩:=h.ny
 obtain⟨w1,hw1⟩:∃ w1,w1=w.alloc (.cells #[.int .i64 1,.int .u32 src,.int .u32 dst,.int .i64 proto,.int .i64 ag,.int .i64 ah,.int .i64 bI,.int .i64 aG,.int .i64 au,.int .i64 gen,.slice A ax.length c,.int .i64 bk,.int .i64 till,.int .i64 count] 69):=⟨_,rfl⟩
 have h2:=h1.cells #[.int .i64 1,.int .u32 src,.int .u32 dst,.int .i64 proto,.int .i64 ag,.int .i64 ah,.int .i64 bI,.int .i64 aG,.int .i64 au,.int .i64 gen,.slice A ax.length c,.int .i64 bk,.int .i64 till,.int .i64 count] 69
 rw [← hw1] at h2
 have c0:w1.cell? ⟨sb,3,none⟩=some (.map (some fm))∧w1.cell? ⟨w.heap.size,1,none⟩=some (.int .u32 src)∧w1.cell? ⟨w.heap.size,2,none⟩=some (.int .u32 dst)∧w1.cell? ⟨w.heap.size,3,none⟩=some (.int .i64 proto)∧w1.cell? ⟨w.heap.size,4,none⟩=some (.int .i64 ag)∧w1.cell? ⟨w.heap.size,5,none⟩=some (.int .i64 ah):=⟨cell_of (h2.block 1 rfl) rfl,cell_of (h2.block 0 rfl) rfl,cell_of (h2.block 0 rfl) rfl,cell_of (h2.block 0 rfl) rfl,cell_of (h2.block 0 rfl) rfl,cell_of (h2.block 0 rfl) rfl⟩
 have l0:(Instr.lookup 155 (.map (some fm)) (.agg (dH ⟨src,dst,proto,ag,ah⟩)) true).run Tryz.prog w1.drew=.ok (.tuple #[.agg (eG (sU ⟨src,dst,proto,ag,ah⟩ s.bU)),.bool (jY ⟨src,dst,proto,ag,ah⟩ s.bU)]) w1.drew:=RD (h2.drewN 1) 4 rfl hok.CP wt
 have l1:(Instr.lookup 155 (.map (some fm)) (.agg (dH ⟨src,dst,proto,ag,ah⟩)) true).run Tryz.prog (w1.alloc (.cells #[.int .u32 0,.int .u32 0,.int .i64 0,.int .i64 0,.int .i64 0,.int .i64 0,.int .i64 0,.int .i64 0] 67)).drew=.ok (.tuple #[.agg (eG (sU ⟨src,dst,proto,ag,ah⟩ s.bU)),.bool (jY ⟨src,dst,proto,ag,ah⟩ s.bU)]) (w1.alloc (.cells #[.int .u32 0,.int .u32 0,.int .i64 0,.int .i64 0,.int .i64 0,.int .i64 0,.int .i64 0,.int .i64 0] 67)).drew:=RD ((h2.alloc (.cells #[.int .u32 0,.int .u32 0,.int .i64 0,.int .i64 0,.int .i64 0,.int .i64 0,.int .i64 0,.int .i64 0] 67)).drewN 1) 4 rfl hok.CP wt
 have HO:=Lib.hid h2
 have HK:=Lib.hid hok
 have HW:=Lib.hid hw1
 have HL:Hid (s.bU.length < 256∨256≤s.bU.length):=Lib.hid (by omega)
 clear h h1 h2 wt hok hw1
 generalize jY ⟨src,dst,proto,ag,ah⟩ s.bU=q at *
 generalize sU ⟨src,dst,proto,ag,ah⟩ s.bU=fv at *
 obtain⟨⟨f1,f2,f3,f4,f5⟩,f6,f7,f8⟩:=fv
 go_enter Tryz.func134,Tryz.ntmps134
 go_wp2_with fail
 rw [← HW.out]
 clear HW
 generalize w.heap.size=g at *
 go_region_held3 (fun w'=>w'.cell? ⟨sb,3,none⟩=some (.map (some fm))∧w'.cell? ⟨g,1,none⟩=some (.int .u32 src)∧w'.cell? ⟨g,2,none⟩=some (.int .u32 dst)∧w'.cell? ⟨g,3,none⟩=some (.int .i64 proto)∧w'.cell? ⟨g,4,none⟩=some (.int .i64 ag)∧w'.cell? ⟨g,5,none⟩=some (.int .i64 ah)) (go_keep) (fail)
 all_goals
  clear l0 l1 c0
  have HX:=Lib.hid (HO.out.alloc (.cells #[.int .u32 f1,.int .u32 f2,.int .i64 f3,.int .i64 f4,.int .i64 f5,.int .i64 f6,.int .i64 f7,.int .i64 f8] 67))
  generalize (w1.alloc (.cells #[.int .u32 f1,.int .u32 f2,.int .i64 f3,.int .i64 f4,.int .i64 f5,.int .i64 f6,.int .i64 f7,.int .i64 f8] 67))=W at *
  have d0:W.drew.cell? ⟨sb,3,none⟩=some (.map (some fm)):=cell_of ((HX.out.drewN 1).block 1 rfl) rfl
  have d1:∀ ty,(Builtin.len_ #[155] ty #[.map (some fm)]).run Tryz.prog W.drew=.ok (.int .i64 s.bU.length) W.drew:=fun ty=>EX (HX.out.drewN 1) 4 rfl Tryz.underlying155 ty
  have HF:Hid (In F0 w0 W.drew (iH sb s::R)):=Lib.hid (In.lT HK.out (HX.out.drewN 1).drop)
  clear HX HO HK
  cases q with
  | true=>
   clear d1
   go_wp2_with fail
   go_ret
   exact⟨rfl,HF.out⟩
  | false=>
   rcases HL.out with hl | hl
   ·have H1:decide (256≤s.bU.length)=false:=decide_eq_false (by omega)
    have H2:decide ((256:Int)≤(s.bU.length:Int))=false:=decide_eq_false (by omega)
    have HP:Hid (kP (!false && decide (256≤s.bU.length)) sb s F0 w0 R (.returned (.bool false)) W.drew):=Lib.hid ⟨by rw [H1];rfl,HF.out⟩
    clear hl H1 HL
    go_wp2_with fail
    go_ret
    exact HP.out
   ·have H1:decide (256≤s.bU.length)=true:=decide_eq_true hl
    have H2:decide ((256:Int)≤(s.bU.length:Int))=true:=decide_eq_true (by omega)
    have HP:Hid (kP (!false && decide (256≤s.bU.length)) sb s F0 w0 R (.returned (.bool true)) W.drew):=Lib.hid ⟨by rw [H1];rfl,HF.out⟩
    clear hl H1 HL
    go_wp2_with fail
    go_ret
    exact HP.out
theorem vG {r:Rec} {A:Option Addr} {c:Nat} (wr:mQ r) (hm:bT r=true) (h:In F0 w0 w (iH sb s::R)):Calls Tryz.prog 134 #[pR sb,uy r A c] w (kP (eZ s r) sb s F0 w0 R):=by
 by_cases k1:r.kind=1
 ·have e:eZ s r=(!jY r.fl.t s.bU && decide (256≤s.bU.length)):=by unfold eZ;rw [if_pos k1]
  rw [e]
  obtain⟨kind,⟨⟨src,dst,proto,ag,ah⟩,bI,aG,au⟩,gen,ax,bk,till,count⟩:=r
  subst k1
  exact UW wr.t h
 by_cases k4:r.kind=4
 ·have e:eZ s r=(!kJ r.bk s.bN && decide (16≤s.bN.length)):=by unfold eZ;rw [if_neg k1,if_pos k4]
  rw [e]
  have hb:(Lit.int .i64 r.bk).wf=true:=by
   rw [dS] at hm
   exact wf_i64 (by omega) (by omega)
  obtain⟨kind,fl,gen,ax,bk,till,count⟩:=r
  subst k4
  exact UU hb h
 ·have e:eZ s r=false:=by unfold eZ;rw [if_neg k1,if_neg k4]
  rw [e]
  exact UT k1 k4 h
end
theorem upId_snoc:∀ (l:List Bk) (b:Bk),upId (l++[b])=(upId l && (match l.getLast? with | none=>true | some a=>decide (a.id < b.id)))
 | [],b=>rfl
 | [a],b=>by simp [upId]
 | a::c::r,b=>by
  have ih:=upId_snoc (c::r) b
  simp only [List.cons_append] at ih ⊢
  simp only [upId,ih,List.getLast?_cons_cons,Bool.and_assoc]
theorem Kv (x:Int) (w:World):Calls Tryz.prog 216 #[.int .i64 x] w fun e w'=>e=.returned (.bool (decide (1≤x∧x≤10)))∧w'=w:=by
 by_cases h0:1≤x
 ·by_cases h1:x≤10
  ·have e:decide (1≤x∧x≤10)=true:=decide_eq_true ⟨h0,h1⟩
   rw [e];clear e
   go_enter Tryz.func216,Tryz.ntmps216
   go_wp2_with fail
   go_ret
   exact⟨rfl,rfl⟩
  ·have e:decide (1≤x∧x≤10)=false:=decide_eq_false (fun h=>h1 h.2)
   have q:decide (x≤10)=false:=decide_eq_false h1
   rw [e];clear e h1
   go_enter Tryz.func216,Tryz.ntmps216
   go_wp2_with fail
   go_ret
   exact⟨rfl,rfl⟩
 ·have e:decide (1≤x∧x≤10)=false:=decide_eq_false (fun h=>h0 h.1)
  have q:decide (1≤x)=false:=decide_eq_false h0
  rw [e];clear e h0
  go_enter Tryz.func216,Tryz.ntmps216
  go_wp2_with fail
  go_ret
  exact⟨rfl,rfl⟩
section
variable {F0:List Nat} {w0 w:World} {R:List az}
def RF (l:List Bk) (F0:List Nat) (w0:World) (R:List az) (i:Value) (wr:World):Prop:=
 ∃ k:Nat,k≤l.length∧i=.int .i64 k∧(∀ b∈l.take k,gu b=true)∧upId (l.take k)=true∧In F0 w0 wr R
def BA (r:Bool) (F0:List Nat) (w0:World) (R:List az) (e:Ending) (w':World):Prop:=e=.returned (.bool r)∧In F0 w0 w' R
def ym (l:List Bk) (k:Nat) (b:Bk):Bool:=gu b && (match (l.take k).getLast? with | none=>true | some a=>decide (a.id < b.id))
theorem UX {l:List Bk} {k:Nat} {b:Bk} (hb:l[k]?=some b) (ha:∀ b∈l.take k,gu b=true) (hu:upId (l.take k)=true) (h:ym l k b=true) (hi:In F0 w0 w R):RF l F0 w0 R (.int .i64 ((k:Int)+1)) w:=by
 simp only [ym,Bool.and_eq_true] at h
 have ht:l.take (k+1)=l.take k++[b]:=by rw [List.take_add_one,hb];rfl
 refine⟨k+1,(List.getElem?_eq_some_iff.1 hb).1,by rw [Int.natCast_add];rfl,fun x hx=>?_,?_,hi⟩
 ·rw [ht] at hx
  rcases List.mem_append.1 hx with hx | hx
  ·exact ha x hx
  ·simp at hx;subst hx;exact h.1
 ·rw [ht,upId_snoc,hu,h.2];rfl
theorem DC:∀ (l:List Bk) (k:Nat),upId l=true→upId (l.take k)=true
 | [],k,_=>by simp [upId]
 | a::r,0,_=>rfl
 | [a],k+1,_=>by simp [upId]
 | a::c::r,1,_=>rfl
 | a::c::r,k+2,h=>by
  simp only [upId,Bool.and_eq_true] at h
  have:=DC (c::r) (k+1) h.2
  simp only [List.take_succ_cons] at this ⊢
  simp only [upId,Bool.and_eq_true]
  exact⟨h.1,this⟩
theorem ZR {l:List Bk} {k:Nat} {b:Bk} (hb:l[k]?=some b) (h:ym l k b=false):eU l=false:=by
 cases hg:eU l with
 | false=>rfl
 | true=>
  simp only [eU,Bool.and_eq_true,decide_eq_true_eq,List.all_eq_true] at hg
  have h1:=hg.2.1 b (List.mem_of_getElem? hb)
  have ht:l.take (k+1)=l.take k++[b]:=by rw [List.take_add_one,hb];rfl
  have h2:=DC l (k+1) hg.2.2
  rw [ht,upId_snoc] at h2
  simp only [Bool.and_eq_true] at h2
  unfold ym at h
  rw [h1,h2.2] at h
  cases h
theorem UY {l:List Bk} {k:Nat} (hk:k+1≤l.length):∃ a,l[k]?=some a∧(l.take (k+1)).getLast?=some a:=by
 obtain⟨a,ha⟩:∃ a,l[k]?=some a:=⟨l[k]'(by omega),List.getElem?_eq_getElem _⟩
 exact⟨a,ha,by rw [List.take_add_one,ha];simp⟩
theorem Mv {l:List Bk} {A:Option Addr} {c:Nat} (hs:gZ F0 w0 R A l) (hl:l.length≤1000000000) (h:In F0 w0 w R):Calls Tryz.prog 133 #[.slice A l.length c] w (BA (eU l) F0 w0 R):=by
 by_cases h16:16 < l.length
 ·have e:eU l=false:=by unfold eU;rw [decide_eq_false (by omega)];rfl
  have q:(16:Int) < (l.length:Int):=by omega
  have G:=Lib.hid h
  rw [e]
  clear e h h16 hs hl
  go_enter Tryz.func133,Tryz.ntmps133
  go_wp2_with fail
  go_ret
  exact⟨rfl,G.out⟩
 have q16:decide ((16:Int) < (l.length:Int))=false:=decide_eq_false (by omega)
 have NQ:Hid (l.length≤16):=Lib.hid (Nat.le_of_not_lt h16)
 have HR:Hid (RF l F0 w0 R (.int .i64 0) w):=Lib.hid ⟨0,Nat.zero_le _,rfl,by simp,rfl,h⟩
 have HS:=Lib.hid hs
 clear h hs hl h16
 go_enter Tryz.func133,Tryz.ntmps133
 go_wp2_with fail
 go_loopw [10] (RF l F0 w0 R) (fun k _=>l.length - (intOf k).toNat)
 case atStart=>exact HR.out
 case round=>
  obtain⟨k,hk,rfl,hall,hup,dC⟩:=hrel
  clear HR
  by_cases hlt:k < l.length
  ·obtain⟨b,hb⟩:∃ b,l[k]?=some b:=⟨l[k],List.getElem?_eq_getElem hlt⟩
   obtain⟨g,o,rfl,c0,c1,c2⟩:=HS.out.cell dC hb
   have hlt':(k:Int) < (l.length:Int):=Int.ofNat_lt.2 hlt
   have hw2:wrap64 ((k:Int)+1)=(k:Int)+1:=by have:=NQ.out;unfold wrap64;omega
   have HN:=Lib.hid (fun (h1:ym l k b=true) w' (h':In F0 w0 w' R)=>UX (w:=w') hb hall hup h1 h')
   have HX:=Lib.hid (fun (h1:ym l k b=false) w' (h':In F0 w0 w' R)=>(show BA (eU l) F0 w0 R (.returned (.bool false)) w' from ⟨by rw [ZR hb h1],h'⟩))
   have XY:Hid (∀ o n,In F0 w0 ((wr.alloc o).drewN n) R):=Lib.hid fun o n=>(dC.alloc o).drewN n
   have KW:=Lib.hid (Kv b.weight)
   have XZ:Hid (∀ a,k≠0→l[k - 1]?=some a→wr.cell? ⟨g,o+(k - 1) * 3,none⟩=some (.int .i64 a.id)):=Lib.hid fun a _ ha=>by
    obtain⟨g',o',e,d0,_⟩:=HS.out.cell dC ha
    cases e;exact d0
   obtain⟨id,addr,wt⟩:=b
   simp only at c0 c1 c2 KW
   have hmb:gu ⟨id,addr,wt⟩=(wF id 65535 && decide (1≤wt∧wt≤10)):=rfl
   by_cases hA:id < 0
   ·have TN:=Lib.hid (HX.out (by unfold ym;rw [hmb];unfold wF;rw [decide_eq_false (by omega)];rfl))
    clear HX HN XZ dC hall hup hb hlt hk hmb
    go_wp2_with fail
    go_quiet (fail)
    go_wp2_with fail
    go_ret
    exact TN.out _ (XY.out _ _)
   have qA:decide (id < 0)=false:=decide_eq_false hA
   by_cases hB:65535 < id
   ·have TN:=Lib.hid (HX.out (by unfold ym;rw [hmb];unfold wF;rw [decide_eq_false (by omega)];rfl))
    clear HX HN XZ dC hall hup hb hlt hk hmb hA
    go_wp2_with fail
    go_quiet (fail)
    go_wp2_with fail
    go_ret
    exact TN.out _ (XY.out _ _)
   have qB:decide (65535 < id)=false:=decide_eq_false hB
   have hin:wF id 65535=true:=decide_eq_true (by omega)
   rw [hin,Bool.true_and] at hmb
   cases hC:decide (1≤wt∧wt≤10) with
   | false=>
    rw [hC] at KW
    have TN:=Lib.hid (HX.out (by unfold ym;rw [hmb,hC];rfl))
    clear HX HN XZ dC hall hup hb hlt hk hmb hA hB hin hC
    go_wp2_with fail
    go_quiet ((go_at_call 216;exact Calls.quiet_of_same (KW.out _)))
    go_wp2_with fail
    go_ret
    exact TN.out _ (XY.out _ _)
   | true=>
    rw [hC] at KW
    rw [hC] at hmb
    by_cases hD:k=0
    ·have hgo:ym l k ⟨id,addr,wt⟩=true:=by unfold ym;rw [hmb,hD];rfl
     have uf:=Lib.hid (HN.out hgo)
     have qD:decide ((0:Int) < (k:Int))=false:=decide_eq_false (by omega)
     have qD':decide (0 < k)=false:=decide_eq_false (by omega)
     clear HX HN XZ dC hall hup hb hlt hk hmb hA hB hin hC hgo hD
     go_wp2_with fail
     go_quiet ((go_at_call 216;exact Calls.quiet_of_same (KW.out _)))
     go_wp2_with fail
     go_roundw
     case rel=>(try rw [hw2]);exact uf.out _ (XY.out _ _)
     case measure=>(try rw [hw2]);exact dV hlt'
    ·have qD:(0:Int) < (k:Int):=by omega
     obtain⟨k',rfl⟩:∃ k',k=k'+1:=⟨k - 1,by omega⟩
     obtain⟨a,ha,hla⟩:=UY (l:=l) (k:=k') (by omega)
     have d0:=XZ.out a hD (by simpa using ha)
     rw [Nat.add_sub_cancel] at d0
     have hkc:(((k'+1:Nat):Int))=(k':Int)+1:=by omega
     have hsub:IntKind.i64.wrap (((k'+1:Nat):Int) - 1)=(k':Int):=by have:=NQ.out;rw [IntWalk.i64_in _ (by omega)];omega
     have hsub2:(((k'+1:Nat):Int) - 1)=(k':Int):=by omega
     have hkl:(k':Int) < (l.length:Int):=by omega
     have aa0:IntKind.i64.wrap ((k':Int)+1 - 1)=(k':Int):=by have:=NQ.out;rw [IntWalk.i64_in _ (by omega)];omega
     have aa1:((k':Int)+1 - 1)=(k':Int):=by omega
     have qD2:(0:Int) < (k':Int)+1:=by omega
     have aa2:IntKind.i64.wrap (k':Int)=(k':Int):=by have:=NQ.out;exact IntWalk.i64_in _ (by omega)
     have abt:k' < l.length:=by omega
     have hw3:wrap64 ((k':Int)+1+1)=((k'+1:Nat):Int)+1:=by have:=NQ.out;unfold wrap64;omega
     have hb3:=dC.cells #[.int .i64 id,.int .u32 addr,.int .i64 wt] 160
     have y0:(wr.alloc (.cells #[.int .i64 id,.int .u32 addr,.int .i64 wt] 160)).cell? ⟨wr.heap.size,0,none⟩=some (.int .i64 id):=cell_of (hb3.block 0 rfl) rfl
     have y2:(wr.alloc (.cells #[.int .i64 id,.int .u32 addr,.int .i64 wt] 160)).cell? ⟨wr.heap.size,2,none⟩=some (.int .i64 wt):=cell_of (hb3.block 0 rfl) rfl
     have y3:(wr.alloc (.cells #[.int .i64 id,.int .u32 addr,.int .i64 wt] 160)).cell? ⟨g,o+k' * 3,none⟩=some (.int .i64 a.id):=by rw [World.cell?_alloc_lt _ _ _ (World.block_lt_of_cell? _ _ d0)];exact d0
     clear hb3
     by_cases hE:id≤a.id
     ·have TN:=Lib.hid (HX.out (by unfold ym;rw [hmb,hla];simp;omega))
      clear HX HN XZ dC hall hup hb hlt hk hmb hA hB hin hC hD ha hla hkc
      go_wp2_with fail
      go_region_held3 (fun w'=>w'.cell? ⟨wr.heap.size,0,none⟩=some (.int .i64 id)∧w'.cell? ⟨wr.heap.size,2,none⟩=some (.int .i64 wt)∧w'.cell? ⟨g,o+k' * 3,none⟩=some (.int .i64 a.id)) (first | exact⟨y0,y2,y3⟩ | go_keep) (first | (go_at_call 216;refine (KW.out _).mono ?_;rintro e w5 ⟨rfl,rfl⟩))
      go_wp2_with fail
      go_ret
      exact TN.out _ (XY.out _ 1)
     ·have qE:decide (id≤a.id)=false:=decide_eq_false hE
      have uf:=Lib.hid (HN.out (by unfold ym;rw [hmb,hla];simp;omega))
      clear HX HN XZ dC hall hup hb hlt hk hmb hA hB hin hC hD ha hla hE hkc
      go_wp2_with fail
      go_region_held3 (fun w'=>w'.cell? ⟨wr.heap.size,0,none⟩=some (.int .i64 id)∧w'.cell? ⟨wr.heap.size,2,none⟩=some (.int .i64 wt)∧w'.cell? ⟨g,o+k' * 3,none⟩=some (.int .i64 a.id)) (first | exact⟨y0,y2,y3⟩ | go_keep) (first | (go_at_call 216;refine (KW.out _).mono ?_;rintro e w5 ⟨rfl,rfl⟩))
      go_wp2_with fail
      go_roundw
      case rel=>(try rw [hw2]);(try rw [hw3]);exact uf.out _ (XY.out _ 1)
      case measure=>(try rw [hw2]);(try rw [hw3]);exact dV hlt'
  ·have hge:(l.length:Int)≤(k:Int):=Int.ofNat_le.2 (Nat.le_of_not_lt hlt)
   have hkl:l.take k=l:=List.take_of_length_le (Nat.le_of_not_lt hlt)
   rw [hkl] at hall hup
   have e:eU l=true:=by
    unfold eU
    rw [decide_eq_true NQ.out,hup,List.all_eq_true.2 hall];rfl
   have G:Hid (BA (eU l) F0 w0 R (.returned (.bool true)) wr):=Lib.hid ⟨by rw [e],dC⟩
   clear dC hkl hall hup hk hlt e
   go_wp2_with fail
   go_ret
   exact G.out
end
end Go.Proofs.YtogclkhpbjfadaaGreat
