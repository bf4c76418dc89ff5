/- .. -/
import Derived.Test.YtanhdliaaccacaaGreatUB19
import Derived.Test.YtanhdliaaccacaaGreatUB15
import Derived.Test.YtanhdliaaccacaaGreatUB6
import Derived.Test.YtanhdliaaccacaaGreatUB12
import Derived.BigQuiet
import Derived.Deep.QuietTactic
namespace Go.Proofs.YtanhdliaaccacaaGreat
open Go.RowKit
open Go.Maps (Keyed)
set_option linter.unusedVariables false
set_option maxHeartbeats 64000000
set_option maxRecDepth 100000
theorem zN:Keyed Tryz.prog 3:=Maps.int_keyed Tryz.underlying3
abbrev IK (x:Fl):Value:=.agg (dE x.t)
abbrev XV (x:Fl):Value:=.agg (dQ x)
abbrev Cq (b:Nat) (L:List Fl):ax:=jq Tryz.prog 47 IK XV b L
abbrev WJ (x:Int×Int):Value:=.int .i64 x.1
abbrev sdV (x:Int×Int):Value:=.int .i64 x.2
abbrev zO (b:Nat) (L:List (Int×Int)):ax:=jq Tryz.prog 3 WJ sdV b L
abbrev JC (s:eT) (bv:Value) (dm fm:Nat):Array Value:=#[.int .i64 s.gen,bv,.map (some dm),.map (some fm)]
def UX (sb dm fm:Nat) (bv:Value) (s:eT):List ax:=[Cells sb (JC s bv dm fm) 100,gq bv s.au,zO dm s.bL,Cq fm s.bS]
theorem UX.aB {sb dm fm:Nat} {bv:Value} {s:eT}:∀ A∈UX sb dm fm bv s,bD A:=by
 intro A hA
 simp only [UX,List.mem_cons,List.not_mem_nil,or_false] at hA
 rcases hA with rfl | rfl | rfl | rfl
 ·exact Cells.aB _ _ _
 ·exact ay.aB _ _ _ _ _
 ·exact jq.aB _ _
 ·exact jq.aB _ _
def iF (sb:Nat) (s:eT):ax:=fun w F=>∃ dm fm bv,gm s∧Star (UX sb dm fm bv s) w F
theorem iF.aB (sb:Nat) (s:eT):bD (iF sb s):=by
 refine⟨?_,?_⟩
 ·rintro w w' F ⟨dm,fm,bv,h1,h2⟩ hk;exact⟨dm,fm,bv,h1,(bD.star UX.aB).keep h2 hk⟩
 ·rintro w F ⟨dm,fm,bv,h1,h2⟩;exact (bD.star UX.aB).lt h2
theorem vL {w:World}:∀ {A1 R:List ax} {F1 F2:List Nat},Star A1 w F1→Star R w F2→Apart F1 F2→Star (A1++R) w (F1++F2)
 | [],R,F1,F2,h1,h2,_=>by obtain rfl:F1=[]:=h1;simpa using h2
 | A::A1,R,F1,F2,⟨G1,G2,g1,g2,g3,e⟩,h2,h3=>by
  refine⟨G1,G2++F2,g1,vL g2 h2 (fun b hb=>h3 b (by rw [e];exact List.mem_append_right _ hb)),fun b hb hb2=>?_,by rw [e,List.append_assoc]⟩
  rcases List.mem_append.1 hb2 with hb2 | hb2
  ·exact g3 b hb hb2
  ·exact h3 b (by rw [e];exact List.mem_append_left _ hb) hb2
section
variable {F0:List Nat} {w0 w:World} {R:List ax} {sb:Nat} {s:eT}
theorem In.nu (h:In F0 w0 w (iF sb s::R)):gm s∧∃ dm fm a c,In F0 w0 w (Cells sb (JC s (.slice a s.au.length c) dm fm) 100::gq (.slice a s.au.length c) s.au::zO dm s.bL::Cq fm s.bS::R):=by
 obtain⟨F,⟨F1,F2,⟨dm,fm,bv,hok,h1⟩,h2,h3,rfl⟩,hF⟩:=h.star
 have h4:In F0 w0 w (UX sb dm fm bv s++R):=by
  refine⟨fun B hB=>?_,⟨_,vL h1 h2 h3,hF⟩,h.mod⟩
  rcases List.mem_append.1 hB with hB | hB
  ·exact UX.aB _ hB
  ·exact h.aB B (List.mem_cons_of_mem _ hB)
 obtain⟨Fv,rv⟩:=h4.get 1 rfl
 obtain⟨a,c,rfl,-,-,-⟩:=ay.shape rv
 exact⟨hok,dm,fm,a,c,h4⟩
theorem In.lT {dm fm:Nat} {bv:Value} (hok:gm s) (h:In F0 w0 w (Cells sb (JC s bv dm fm) 100::gq bv s.au::zO dm s.bL::Cq fm s.bS::R)):In F0 w0 w (iF sb s::R):=
 (In.join (A1:=UX sb dm fm bv s) (R:=R) h).imp (A':=iF sb s) 0 rfl (iF.aB _ _) (fun F hF=>⟨dm,fm,bv,hok,hF⟩)
theorem zP (h:In F0 w0 w R):Calls Tryz.prog 62 #[] w fun e w'=>∃ sb,e=.returned (pR sb)∧In F0 w0 w' (iF sb aH::R):=by
 have h1:=wP h Tryz.prog 3 WJ sdV
 have h2:=wP h1 Tryz.prog 47 IK XV
 have e1:(w.alloc (Obj.map #[] 0)).heap.size=w.heap.size+1:=Array.size_push _
 have e2:((w.alloc (Obj.map #[] 0)).alloc (Obj.map #[] 0)).heap.size=w.heap.size+1+1:=by rw [show ((w.alloc (Obj.map #[] 0)).alloc (Obj.map #[] 0)).heap.size=(w.alloc (Obj.map #[] 0)).heap.size+1 from Array.size_push _,e1]
 have h3:=(h2.cells #[.int .i64 0,.slice none 0 0,.map (some w.heap.size),.map (some (w.heap.size+1))] 100).dz 103 3
 rw [e1,e2] at h3
 have HF:=Lib.hid (In.lT (s:=aH) gm.zero (In.aL (R1:=[_,_,_,_]) (R2:=R) h3 [1,0,3,2] (by decide) rfl))
 clear h h1 h2 h3 e1 e2
 have hmm:=@run_makeMap Tryz.prog
 go_enter Tryz.func62,Tryz.ntmps62
 go_wp2_with fail
 go_ret
 exact⟨_,rfl,HF.out⟩
/-! ### The maps -/
theorem FB {x y:Fl} (h:IK x=IK y):x.t=y.t:=by
 obtain⟨⟨a1,a2,a3,a4,a5⟩,_,_,_⟩:=x
 obtain⟨⟨b1,b2,b3,b4,b5⟩,_,_,_⟩:=y
 simp [IK,dE] at h
 simp [h]
theorem uA {L:List Fl} (h:nH L):(L.map IK).Nodup:=by
 unfold List.Nodup
 rw [List.pairwise_map]
 refine List.Pairwise.imp (fun {x y} hl e=>?_) h
 rw [FB e,iw] at hl;cases hl
theorem uB {L:List (Int×Int)} (h:pY L):(L.map WJ).Nodup:=by
 unfold List.Nodup
 rw [List.pairwise_map]
 refine List.Pairwise.imp (fun {x y} hl e=>?_) h
 simp only [WJ,Value.int.injEq,true_and] at e
 omega
theorem Lc (w:World):(zeroValue 49).run Tryz.prog w=.ok (.agg (dQ aQ)) w:=by kernel_rfl
variable {fm dm:Nat} {L:List Fl} {M:List (Int×Int)}
theorem ML {t:rX} {x:Fl}:decide (x.t≠t)=true↔IK x≠.agg (dE t):=by
 rw [decide_eq_true_eq]
 exact⟨fun h e=>h (FB (y:=⟨t,0,0,0⟩) e),fun h e=>h (by rw [← e])⟩
theorem XW (h:In F0 w0 w R) (i:Nat) (hA:R[i]?=some (Cq fm L)) (hs:nH L) {f:Fl} (wt:GK f.t):∃ w',(Instr.mapUpdate 98 (.map (some fm)) (.agg (dE f.t)) (.agg (dQ f))).run Tryz.prog w=.ok () w'∧xB fm w w'∧In F0 w0 w' (R.set i (Cq fm (stPutF f L))):=by
 obtain⟨kl,hkl⟩:=yj wt
 obtain⟨w',h1,h2,h3⟩:=ER h i hA La Tryz.underlying98 f hkl (uA hs) (fun x=>decide (x.t≠f.t)) (fun x _=>ML)
 have hi:=(List.getElem?_eq_some_iff.1 hA).1
 have:=Bh (L':=stPutF f L) h3 i (by rw [List.getElem?_set_self hi];rfl) (yK hs)
 rw [List.set_set] at this
 exact⟨w',h1,h2,this⟩
theorem XX (h:In F0 w0 w R) (i:Nat) (hA:R[i]?=some (Cq fm L)) (hs:nH L) {t:rX} (wt:GK t) (k2 ty:TypeId):∃ w',(Builtin.delete_ #[98,k2] ty #[.map (some fm),.agg (dE t)]).run Tryz.prog w=.ok (.tuple #[]) w'∧xB fm w w'∧In F0 w0 w' (R.set i (Cq fm (kG t L))):=by
 obtain⟨kl,hkl⟩:=yj wt
 exact ET h i hA La Tryz.underlying98 hkl (uA hs) (fun x=>decide (x.t≠t)) (fun x _=>ML) k2 ty
theorem XY (h:In F0 w0 w R) (i:Nat) (hA:R[i]?=some (zO dm M)) (hs:pY M) {b:Int} (hb:(Lit.int .i64 b).wf=true) (u:Int):∃ w',(Instr.mapUpdate 97 (.map (some dm)) (.int .i64 b) (.int .i64 u)).run Tryz.prog w=.ok () w'∧xB dm w w'∧In F0 w0 w' (R.set i (zO dm (stPutD b u M))):=by
 obtain⟨w',h1,h2,h3⟩:=ER h i hA zN Tryz.underlying97 (b,u) (Maps.keyOf_int_mk Tryz.underlying3 hb) (uB hs) (fun x=>decide (x.1≠b)) (fun x _=>by simp [WJ])
 have hi:=(List.getElem?_eq_some_iff.1 hA).1
 have:=Bh (L':=stPutD b u M) h3 i (by rw [List.getElem?_set_self hi];rfl) (yM hs)
 rw [List.set_set] at this
 exact⟨w',h1,h2,this⟩
theorem XZ (h:In F0 w0 w R) (i:Nat) (hA:R[i]?=some (zO dm M)) (hs:pY M) {b:Int} (hb:(Lit.int .i64 b).wf=true) (k2 ty:TypeId):∃ w',(Builtin.delete_ #[97,k2] ty #[.map (some dm),.int .i64 b]).run Tryz.prog w=.ok (.tuple #[]) w'∧xB dm w w'∧In F0 w0 w' (R.set i (zO dm (kH b M))):=
 ET h i hA zN Tryz.underlying97 (Maps.keyOf_int_mk Tryz.underlying3 hb) (uB hs) (fun x=>decide (x.1≠b)) (fun x _=>by simp [WJ]) k2 ty
end
def tF (t:rX) (L:List Fl):Fl:=(L.find? (fun x=>decide (x.t=t))).getD aQ
def vM (b:Int) (L:List (Int×Int)):Int:=((L.find? (fun x=>decide (x.1=b))).map (·.2)).getD 0
section
variable {F0:List Nat} {w0 w:World} {R:List ax} {sb:Nat} {s:eT} {fm dm:Nat} {L:List Fl} {M:List (Int×Int)}
theorem NY (hs:nH L) {x:Fl} (hx:x∈L):tF x.t L=x:=by
 unfold tF
 cases e:L.find? (fun y=>decide (y.t=x.t)) with
 | none=>have:=List.find?_eq_none.1 e x hx;simp at this
 | some y=>
  have h1:=List.find?_some e
  have h2:=List.mem_of_find?_eq_some e
  simp only [decide_eq_true_eq] at h1
  exact EW (uA hs) h2 hx (show IK y=IK x by simp only [IK,h1])
theorem NZ (hs:pY M) {x:Int×Int} (hx:x∈M):vM x.1 M=x.2:=by
 unfold vM
 cases e:M.find? (fun y=>decide (y.1=x.1)) with
 | none=>have:=List.find?_eq_none.1 e x hx;simp at this
 | some y=>
  have h1:=List.find?_some e
  have h2:=List.mem_of_find?_eq_some e
  simp only [decide_eq_true_eq] at h1
  have:y=x:=EW (uB hs) h2 hx (by simp only [WJ,h1])
  rw [this];rfl
theorem Oa {t:rX} (h:∀ x∈L,x.t≠t):tF t L=aQ:=by
 unfold tF
 rw [List.find?_eq_none.2 (fun x hx=>by simpa using h x hx)];rfl
theorem Ob {b:Int} (h:∀ x∈M,x.1≠b):vM b M=0:=by
 unfold vM
 rw [List.find?_eq_none.2 (fun x hx=>by simpa using h x hx)];rfl
theorem RO (h:In F0 w0 w R) (i:Nat) (hA:R[i]?=some (Cq fm L)) (hs:nH L) {t:rX} (wt:GK t):(Instr.lookup 98 (.map (some fm)) (.agg (dE t)) true).run Tryz.prog w=.ok (.tuple #[.agg (dQ (tF t L)),.bool (jX t L)]) w:=by
 obtain⟨kl,hkl⟩:=yj wt
 rcases wO h i hA La Tryz.underlying98 (Lc w) hkl true with ⟨x,hx,e,hr⟩|⟨hn,hr⟩
 ·have e2:x.t=t:=FB (y:=⟨t,0,0,0⟩) e
  have:jX t L=true:=qW.2 ⟨x,hx,e2⟩
  rw [this,← e2,NY hs hx];rw [e2];exact hr
 ·have hn2:∀ x∈L,x.t≠t:=fun x hx e=>hn x hx (by rw [← e])
  have:jX t L=false:=by
   cases e:jX t L with
   | false=>rfl
   | true=>obtain⟨x,hx,e⟩:=qW.1 e;exact absurd e (hn2 x hx)
  rw [this,Oa hn2];exact hr
theorem Ya (h:In F0 w0 w R) (i:Nat) (hA:R[i]?=some (zO dm M)) (hs:pY M) {b:Int} (hb:(Lit.int .i64 b).wf=true):(Instr.lookup 97 (.map (some dm)) (.int .i64 b) true).run Tryz.prog w=.ok (.tuple #[.int .i64 (vM b M),.bool (kI b M)]) w:=by
 rcases wO h i hA zN Tryz.underlying97 (z:=.int .i64 0) (by kernel_rfl) (Maps.keyOf_int_mk Tryz.underlying3 hb) true with ⟨x,hx,e,hr⟩|⟨hn,hr⟩
 ·simp only [WJ,Value.int.injEq,true_and] at e
  have:kI b M=true:=qX.2 ⟨x,hx,e⟩
  rw [this,← e,NZ hs hx];rw [e];exact hr
 ·have hn2:∀ x∈M,x.1≠b:=fun x hx e=>hn x hx (by rw [← e])
  have:kI b M=false:=by
   cases e:kI b M with
   | false=>rfl
   | true=>obtain⟨x,hx,e⟩:=qX.1 e;exact absurd e (hn2 x hx)
  rw [this,Ob hn2];exact hr
def kM (b:Bool) (sb:Nat) (s:eT) (F0:List Nat) (w0:World) (R:List ax) (e:Ending) (w':World):Prop:=e=.returned (.bool b)∧In F0 w0 w' (iF sb s::R)
theorem UY {r:Rec} {A:Option Addr} {c:Nat} (k1:r.kind≠1) (k4:r.kind≠4) (h:In F0 w0 w (iF sb s::R)):Calls Tryz.prog 136 #[pR sb,tq r A c] w (kM false sb s F0 w0 R):=by
 have HH:=Lib.hid fun o=>h.alloc o
 have q1:(r.kind == 1)=false:=beq_eq_false_iff_ne.2 k1
 have q4:(r.kind == 4)=false:=beq_eq_false_iff_ne.2 k4
 clear h k1 k4
 obtain⟨kind,⟨⟨src,dst,proto,ag,ah⟩,bN,aJ,aA⟩,gen,au,bk,till,count⟩:=r
 simp only at q1 q4
 go_enter Tryz.func136,Tryz.ntmps136
 go_wp2_with fail
 go_ret
 exact⟨rfl,HH.out _⟩
theorem UZ {fl:Fl} {gen bk till count:Int} {au:List Bk} {A:Option Addr} {c:Nat} (hb:(Lit.int .i64 bk).wf=true) (h:In F0 w0 w (iF sb s::R)):Calls Tryz.prog 136 #[pR sb,tq ⟨4,fl,gen,au,bk,till,count⟩ A c] w (kM (!kI bk s.bL && decide (16≤s.bL.length)) sb s F0 w0 R):=by
 obtain⟨⟨src,dst,proto,ag,ah⟩,bN,aJ,aA⟩:=fl
 obtain⟨hok,dm,fm,a,c',h1⟩:=h.nu
 obtain⟨w1,hw1⟩:∃ w1,w1=w.alloc (.cells #[.int .i64 4,.int .u32 src,.int .u32 dst,.int .i64 proto,.int .i64 ag,.int .i64 ah,.int .i64 bN,.int .i64 aJ,.int .i64 aA,.int .i64 gen,.slice A au.length c,.int .i64 bk,.int .i64 till,.int .i64 count] 59):=⟨_,rfl⟩
 have h2:=h1.cells #[.int .i64 4,.int .u32 src,.int .u32 dst,.int .i64 proto,.int .i64 ag,.int .i64 ah,.int .i64 bN,.int .i64 aJ,.int .i64 aA,.int .i64 gen,.slice A au.length c,.int .i64 bk,.int .i64 till,.int .i64 count] 59
 rw [← hw1] at h2
 have c0:w1.cell? ⟨sb,2,none⟩=some (.map (some dm)):=cell_of (h2.block 1 rfl) rfl
 have c1:w1.cell? ⟨w.heap.size,11,none⟩=some (.int .i64 bk):=cell_of (h2.block 0 rfl) rfl
 have l0:∀ n,(Instr.lookup 97 (.map (some dm)) (.int .i64 bk) true).run Tryz.prog (w1.drewN n)=.ok (.tuple #[.int .i64 (vM bk s.bL),.bool (kI bk s.bL)]) (w1.drewN n):=fun n=>Ya (h2.drewN n) 3 rfl hok.CP hb
 have l1:∀ n ty,(Builtin.len_ #[97] ty #[.map (some dm)]).run Tryz.prog (w1.drewN n)=.ok (.int .i64 s.bL.length) (w1.drewN n):=fun n ty=>EU (h2.drewN n) 3 rfl Tryz.underlying97 ty
 have HF:=Lib.hid (fun n=>In.lT hok (h2.drewN n).drop)
 have HW:=Lib.hid hw1
 have HL:Hid (s.bL.length < 16∨16≤s.bL.length):=Lib.hid (by omega)
 clear h h1 h2 hb hok hw1
 generalize kI bk s.bL=q at *
 generalize vM bk s.bL=u at *
 go_enter Tryz.func136,Tryz.ntmps136
 go_wp2_with fail
 rw [← HW.out]
 go_quiet (fail)
 cases q with
 | true=>
  go_wp2_with fail
  go_ret
  exact⟨rfl,HF.out _⟩
 | false=>
  rcases HL.out with hl | hl
  ·have H1:decide (16≤s.bL.length)=false:=decide_eq_false (by omega)
   have H2:decide ((16:Int)≤(s.bL.length:Int))=false:=decide_eq_false (by omega)
   have HP:Hid (kM (!false && decide (16≤s.bL.length)) sb s F0 w0 R (.returned (.bool false)) (w1.drewN nq)):=Lib.hid ⟨by rw [H1];rfl,HF.out nq⟩
   clear hl H1
   go_wp2_with fail
   go_ret
   exact HP.out
  ·have H1:decide (16≤s.bL.length)=true:=decide_eq_true hl
   have H2:decide ((16:Int)≤(s.bL.length:Int))=true:=decide_eq_true (by omega)
   have HP:Hid (kM (!false && decide (16≤s.bL.length)) sb s F0 w0 R (.returned (.bool true)) (w1.drewN nq)):=Lib.hid ⟨by rw [H1];rfl,HF.out nq⟩
   clear hl H1
   go_wp2_with fail
   go_ret
   exact HP.out
theorem Va {src dst proto ag ah bN aJ aA gen bk till count:Int} {au:List Bk} {A:Option Addr} {c:Nat} (wt:GK ⟨src,dst,proto,ag,ah⟩) (h:In F0 w0 w (iF sb s::R)):Calls Tryz.prog 136 #[pR sb,tq ⟨1,⟨⟨src,dst,proto,ag,ah⟩,bN,aJ,aA⟩,gen,au,bk,till,count⟩ A c] w (kM (!jX ⟨src,dst,proto,ag,ah⟩ s.bS && decide (256≤s.bS.length)) sb s F0 w0 R):=by
 obtain⟨hok,dm,fm,a,c',h1⟩:=h.nu
 obtain⟨w1,hw1⟩:∃ w1,w1=w.alloc (.cells #[.int .i64 1,.int .u32 src,.int .u32 dst,.int .i64 proto,.int .i64 ag,.int .i64 ah,.int .i64 bN,.int .i64 aJ,.int .i64 aA,.int .i64 gen,.slice A au.length c,.int .i64 bk,.int .i64 till,.int .i64 count] 59):=⟨_,rfl⟩
 have h2:=h1.cells #[.int .i64 1,.int .u32 src,.int .u32 dst,.int .i64 proto,.int .i64 ag,.int .i64 ah,.int .i64 bN,.int .i64 aJ,.int .i64 aA,.int .i64 gen,.slice A au.length c,.int .i64 bk,.int .i64 till,.int .i64 count] 59
 rw [← hw1] at h2
 have c0:w1.cell? ⟨sb,3,none⟩=some (.map (some fm))∧w1.cell? ⟨w.heap.size,1,none⟩=some (.int .u32 src)∧w1.cell? ⟨w.heap.size,2,none⟩=some (.int .u32 dst)∧w1.cell? ⟨w.heap.size,3,none⟩=some (.int .i64 proto)∧w1.cell? ⟨w.heap.size,4,none⟩=some (.int .i64 ag)∧w1.cell? ⟨w.heap.size,5,none⟩=some (.int .i64 ah):=⟨cell_of (h2.block 1 rfl) rfl,cell_of (h2.block 0 rfl) rfl,cell_of (h2.block 0 rfl) rfl,cell_of (h2.block 0 rfl) rfl,cell_of (h2.block 0 rfl) rfl,cell_of (h2.block 0 rfl) rfl⟩
 have l0:(Instr.lookup 98 (.map (some fm)) (.agg (dE ⟨src,dst,proto,ag,ah⟩)) true).run Tryz.prog w1.drew=.ok (.tuple #[.agg (dQ (tF ⟨src,dst,proto,ag,ah⟩ s.bS)),.bool (jX ⟨src,dst,proto,ag,ah⟩ s.bS)]) w1.drew:=RO (h2.drewN 1) 4 rfl hok.CQ wt
 have l1:(Instr.lookup 98 (.map (some fm)) (.agg (dE ⟨src,dst,proto,ag,ah⟩)) true).run Tryz.prog (w1.alloc (.cells #[.int .u32 0,.int .u32 0,.int .i64 0,.int .i64 0,.int .i64 0,.int .i64 0,.int .i64 0,.int .i64 0] 49)).drew=.ok (.tuple #[.agg (dQ (tF ⟨src,dst,proto,ag,ah⟩ s.bS)),.bool (jX ⟨src,dst,proto,ag,ah⟩ s.bS)]) (w1.alloc (.cells #[.int .u32 0,.int .u32 0,.int .i64 0,.int .i64 0,.int .i64 0,.int .i64 0,.int .i64 0,.int .i64 0] 49)).drew:=RO ((h2.alloc (.cells #[.int .u32 0,.int .u32 0,.int .i64 0,.int .i64 0,.int .i64 0,.int .i64 0,.int .i64 0,.int .i64 0] 49)).drewN 1) 4 rfl hok.CQ wt
 have HO:=Lib.hid h2
 have HK:=Lib.hid hok
 have HW:=Lib.hid hw1
 have HL:Hid (s.bS.length < 256∨256≤s.bS.length):=Lib.hid (by omega)
 clear h h1 h2 wt hok hw1
 generalize jX ⟨src,dst,proto,ag,ah⟩ s.bS=q at *
 generalize tF ⟨src,dst,proto,ag,ah⟩ s.bS=fv at *
 obtain⟨⟨f1,f2,f3,f4,f5⟩,f6,f7,f8⟩:=fv
 go_enter Tryz.func136,Tryz.ntmps136
 go_wp2_with fail
 rw [← HW.out]
 clear HW
 generalize w.heap.size=g at *
 go_region_held3 (fun w'=>w'.cell? ⟨sb,3,none⟩=some (.map (some fm))∧w'.cell? ⟨g,1,none⟩=some (.int .u32 src)∧w'.cell? ⟨g,2,none⟩=some (.int .u32 dst)∧w'.cell? ⟨g,3,none⟩=some (.int .i64 proto)∧w'.cell? ⟨g,4,none⟩=some (.int .i64 ag)∧w'.cell? ⟨g,5,none⟩=some (.int .i64 ah)) (go_keep) (fail)
 all_goals
  clear l0 l1 c0
  have HX:=Lib.hid (HO.out.alloc (.cells #[.int .u32 f1,.int .u32 f2,.int .i64 f3,.int .i64 f4,.int .i64 f5,.int .i64 f6,.int .i64 f7,.int .i64 f8] 49))
  generalize (w1.alloc (.cells #[.int .u32 f1,.int .u32 f2,.int .i64 f3,.int .i64 f4,.int .i64 f5,.int .i64 f6,.int .i64 f7,.int .i64 f8] 49))=W at *
  have d0:W.drew.cell? ⟨sb,3,none⟩=some (.map (some fm)):=cell_of ((HX.out.drewN 1).block 1 rfl) rfl
  have d1:∀ ty,(Builtin.len_ #[98] ty #[.map (some fm)]).run Tryz.prog W.drew=.ok (.int .i64 s.bS.length) W.drew:=fun ty=>EU (HX.out.drewN 1) 4 rfl Tryz.underlying98 ty
  have HF:Hid (In F0 w0 W.drew (iF sb s::R)):=Lib.hid (In.lT HK.out (HX.out.drewN 1).drop)
  clear HX HO HK
  cases q with
  | true=>
   clear d1
   go_wp2_with fail
   go_ret
   exact⟨rfl,HF.out⟩
  | false=>
   rcases HL.out with hl | hl
   ·have H1:decide (256≤s.bS.length)=false:=decide_eq_false (by omega)
    have H2:decide ((256:Int)≤(s.bS.length:Int))=false:=decide_eq_false (by omega)
    have HP:Hid (kM (!false && decide (256≤s.bS.length)) sb s F0 w0 R (.returned (.bool false)) W.drew):=Lib.hid ⟨by rw [H1];rfl,HF.out⟩
    clear hl H1 HL
    go_wp2_with fail
    go_ret
    exact HP.out
   ·have H1:decide (256≤s.bS.length)=true:=decide_eq_true hl
    have H2:decide ((256:Int)≤(s.bS.length:Int))=true:=decide_eq_true (by omega)
    have HP:Hid (kM (!false && decide (256≤s.bS.length)) sb s F0 w0 R (.returned (.bool true)) W.drew):=Lib.hid ⟨by rw [H1];rfl,HF.out⟩
    clear hl H1 HL
    go_wp2_with fail
    go_ret
    exact HP.out
theorem vN {r:Rec} {A:Option Addr} {c:Nat} (wr:nS r) (hm:bR r=true) (h:In F0 w0 w (iF sb s::R)):Calls Tryz.prog 136 #[pR sb,tq r A c] w (kM (fF s r) sb s F0 w0 R):=by
 by_cases k1:r.kind=1
 ·have e:fF s r=(!jX r.fl.t s.bS && decide (256≤s.bS.length)):=by unfold fF;rw [if_pos k1]
  rw [e]
  obtain⟨kind,⟨⟨src,dst,proto,ag,ah⟩,bN,aJ,aA⟩,gen,au,bk,till,count⟩:=r
  subst k1
  exact Va wr.t h
 by_cases k4:r.kind=4
 ·have e:fF s r=(!kI r.bk s.bL && decide (16≤s.bL.length)):=by unfold fF;rw [if_neg k1,if_pos k4]
  rw [e]
  have hb:(Lit.int .i64 r.bk).wf=true:=by
   rw [dV] at hm
   exact wf_i64 (by omega) (by omega)
  obtain⟨kind,fl,gen,au,bk,till,count⟩:=r
  subst k4
  exact UZ hb h
 ·have e:fF s r=false:=by unfold fF;rw [if_neg k1,if_neg k4]
  rw [e]
  exact UY k1 k4 h
end
theorem upId_snoc:∀ (l:List Bk) (b:Bk),upId (l++[b])=(upId l && (match l.getLast? with | none=>true | some a=>decide (a.id < b.id)))
 | [],b=>rfl
 | [a],b=>by simp [upId]
 | a::c::r,b=>by
  have ih:=upId_snoc (c::r) b
  simp only [List.cons_append] at ih ⊢
  simp only [upId,ih,List.getLast?_cons_cons,Bool.and_assoc]
theorem Ld (x:Int) (w:World):Calls Tryz.prog 203 #[.int .i64 x] w fun e w'=>e=.returned (.bool (decide (1≤x∧x≤10)))∧w'=w:=by
 by_cases h0:1≤x
 ·by_cases h1:x≤10
  ·have e:decide (1≤x∧x≤10)=true:=decide_eq_true ⟨h0,h1⟩
   rw [e];clear e
   go_enter Tryz.func203,Tryz.ntmps203
   go_wp2_with fail
   go_ret
   exact⟨rfl,rfl⟩
  ·have e:decide (1≤x∧x≤10)=false:=decide_eq_false (fun h=>h1 h.2)
   have q:decide (x≤10)=false:=decide_eq_false h1
   rw [e];clear e h1
   go_enter Tryz.func203,Tryz.ntmps203
   go_wp2_with fail
   go_ret
   exact⟨rfl,rfl⟩
 ·have e:decide (1≤x∧x≤10)=false:=decide_eq_false (fun h=>h0 h.1)
  have q:decide (1≤x)=false:=decide_eq_false h0
  rw [e];clear e h0
  go_enter Tryz.func203,Tryz.ntmps203
  go_wp2_with fail
  go_ret
  exact⟨rfl,rfl⟩
section
variable {F0:List Nat} {w0 w:World} {R:List ax}
def RP (l:List Bk) (F0:List Nat) (w0:World) (R:List ax) (i:Value) (wr:World):Prop:=
 ∃ k:Nat,k≤l.length∧i=.int .i64 k∧(∀ b∈l.take k,gy b=true)∧upId (l.take k)=true∧In F0 w0 wr R
def BA (r:Bool) (F0:List Nat) (w0:World) (R:List ax) (e:Ending) (w':World):Prop:=e=.returned (.bool r)∧In F0 w0 w' R
def yl (l:List Bk) (k:Nat) (b:Bk):Bool:=gy b && (match (l.take k).getLast? with | none=>true | some a=>decide (a.id < b.id))
theorem Vb {l:List Bk} {k:Nat} {b:Bk} (hb:l[k]?=some b) (ha:∀ b∈l.take k,gy b=true) (hu:upId (l.take k)=true) (h:yl l k b=true) (hi:In F0 w0 w R):RP l F0 w0 R (.int .i64 ((k:Int)+1)) w:=by
 simp only [yl,Bool.and_eq_true] at h
 have ht:l.take (k+1)=l.take k++[b]:=by rw [List.take_add_one,hb];rfl
 refine⟨k+1,(List.getElem?_eq_some_iff.1 hb).1,by rw [Int.natCast_add];rfl,fun x hx=>?_,?_,hi⟩
 ·rw [ht] at hx
  rcases List.mem_append.1 hx with hx | hx
  ·exact ha x hx
  ·simp at hx;subst hx;exact h.1
 ·rw [ht,upId_snoc,hu,h.2];rfl
theorem DC:∀ (l:List Bk) (k:Nat),upId l=true→upId (l.take k)=true
 | [],k,_=>by simp [upId]
 | a::r,0,_=>rfl
 | [a],k+1,_=>by simp [upId]
 | a::c::r,1,_=>rfl
 | a::c::r,k+2,h=>by
  simp only [upId,Bool.and_eq_true] at h
  have:=DC (c::r) (k+1) h.2
  simp only [List.take_succ_cons] at this ⊢
  simp only [upId,Bool.and_eq_true]
  exact⟨h.1,this⟩
theorem aad {l:List Bk} {k:Nat} {b:Bk} (hb:l[k]?=some b) (h:yl l k b=false):fu l=false:=by
 cases hg:fu l with
 | false=>rfl
 | true=>
  simp only [fu,Bool.and_eq_true,decide_eq_true_eq,List.all_eq_true] at hg
  have h1:=hg.2.1 b (List.mem_of_getElem? hb)
  have ht:l.take (k+1)=l.take k++[b]:=by rw [List.take_add_one,hb];rfl
  have h2:=DC l (k+1) hg.2.2
  rw [ht,upId_snoc] at h2
  simp only [Bool.and_eq_true] at h2
  unfold yl at h
  rw [h1,h2.2] at h
  cases h
theorem Vd {l:List Bk} {k:Nat} (hk:k+1≤l.length):∃ a,l[k]?=some a∧(l.take (k+1)).getLast?=some a:=by
 obtain⟨a,ha⟩:∃ a,l[k]?=some a:=⟨l[k]'(by omega),List.getElem?_eq_getElem _⟩
 exact⟨a,ha,by rw [List.take_add_one,ha];simp⟩
theorem MM {l:List Bk} {A:Option Addr} {c:Nat} (hs:gZ F0 w0 R A l) (hl:l.length≤1000000000) (h:In F0 w0 w R):Calls Tryz.prog 135 #[.slice A l.length c] w (BA (fu l) F0 w0 R):=by
 by_cases h16:16 < l.length
 ·have e:fu l=false:=by unfold fu;rw [decide_eq_false (by omega)];rfl
  have q:(16:Int) < (l.length:Int):=by omega
  have G:=Lib.hid h
  rw [e]
  clear e h h16 hs hl
  go_enter Tryz.func135,Tryz.ntmps135
  go_wp2_with fail
  go_ret
  exact⟨rfl,G.out⟩
 have q16:decide ((16:Int) < (l.length:Int))=false:=decide_eq_false (by omega)
 have Oc:Hid (l.length≤16):=Lib.hid (Nat.le_of_not_lt h16)
 have HR:Hid (RP l F0 w0 R (.int .i64 0) w):=Lib.hid ⟨0,Nat.zero_le _,rfl,by simp,rfl,h⟩
 have HS:=Lib.hid hs
 clear h hs hl h16
 go_enter Tryz.func135,Tryz.ntmps135
 go_wp2_with fail
 go_loopw [10] (RP l F0 w0 R) (fun k _=>l.length - (intOf k).toNat)
 case atStart=>exact HR.out
 case round=>
  obtain⟨k,hk,rfl,hall,hup,dh⟩:=hrel
  clear HR
  by_cases hlt:k < l.length
  ·obtain⟨b,hb⟩:∃ b,l[k]?=some b:=⟨l[k],List.getElem?_eq_getElem hlt⟩
   obtain⟨g,o,rfl,c0,c1,c2⟩:=HS.out.cell dh hb
   have hlt':(k:Int) < (l.length:Int):=Int.ofNat_lt.2 hlt
   have hw2:wrap64 ((k:Int)+1)=(k:Int)+1:=by have:=Oc.out;unfold wrap64;omega
   have HN:=Lib.hid (fun (h1:yl l k b=true) w' (h':In F0 w0 w' R)=>Vb (w:=w') hb hall hup h1 h')
   have HX:=Lib.hid (fun (h1:yl l k b=false) w' (h':In F0 w0 w' R)=>(show BA (fu l) F0 w0 R (.returned (.bool false)) w' from ⟨by rw [aad hb h1],h'⟩))
   have Yb:Hid (∀ o n,In F0 w0 ((wr.alloc o).drewN n) R):=Lib.hid fun o n=>(dh.alloc o).drewN n
   have KW:=Lib.hid (Ld b.weight)
   have Yc:Hid (∀ a,k≠0→l[k - 1]?=some a→wr.cell? ⟨g,o+(k - 1) * 3,none⟩=some (.int .i64 a.id)):=Lib.hid fun a _ ha=>by
    obtain⟨g',o',e,d0,_⟩:=HS.out.cell dh ha
    cases e;exact d0
   obtain⟨id,addr,wt⟩:=b
   simp only at c0 c1 c2 KW
   have hmb:gy ⟨id,addr,wt⟩=(wM id 65535 && decide (1≤wt∧wt≤10)):=rfl
   by_cases hA:id < 0
   ·have Yd:=Lib.hid (HX.out (by unfold yl;rw [hmb];unfold wM;rw [decide_eq_false (by omega)];rfl))
    clear HX HN Yc dh hall hup hb hlt hk hmb
    go_wp2_with fail
    go_quiet (fail)
    go_wp2_with fail
    go_ret
    exact Yd.out _ (Yb.out _ _)
   have qA:decide (id < 0)=false:=decide_eq_false hA
   by_cases hB:65535 < id
   ·have Yd:=Lib.hid (HX.out (by unfold yl;rw [hmb];unfold wM;rw [decide_eq_false (by omega)];rfl))
    clear HX HN Yc dh hall hup hb hlt hk hmb hA
    go_wp2_with fail
    go_quiet (fail)
    go_wp2_with fail
    go_ret
    exact Yd.out _ (Yb.out _ _)
   have qB:decide (65535 < id)=false:=decide_eq_false hB
   have hin:wM id 65535=true:=decide_eq_true (by omega)
   rw [hin,Bool.true_and] at hmb
   cases hC:decide (1≤wt∧wt≤10) with
   | false=>
    rw [hC] at KW
    have Yd:=Lib.hid (HX.out (by unfold yl;rw [hmb,hC];rfl))
    clear HX HN Yc dh hall hup hb hlt hk hmb hA hB hin hC
    go_wp2_with fail
    go_quiet ((go_at_call 203;exact Calls.quiet_of_same (KW.out _)))
    go_wp2_with fail
    go_ret
    exact Yd.out _ (Yb.out _ _)
   | true=>
    rw [hC] at KW
    rw [hC] at hmb
    by_cases hD:k=0
    ·have hgo:yl l k ⟨id,addr,wt⟩=true:=by unfold yl;rw [hmb,hD];rfl
     have vH:=Lib.hid (HN.out hgo)
     have qD:decide ((0:Int) < (k:Int))=false:=decide_eq_false (by omega)
     have qD':decide (0 < k)=false:=decide_eq_false (by omega)
     clear HX HN Yc dh hall hup hb hlt hk hmb hA hB hin hC hgo hD
     go_wp2_with fail
     go_quiet ((go_at_call 203;exact Calls.quiet_of_same (KW.out _)))
     go_wp2_with fail
     go_roundw
     case rel=>(try rw [hw2]);exact vH.out _ (Yb.out _ _)
     case measure=>(try rw [hw2]);exact dS hlt'
    ·have qD:(0:Int) < (k:Int):=by omega
     obtain⟨k',rfl⟩:∃ k',k=k'+1:=⟨k - 1,by omega⟩
     obtain⟨a,ha,hla⟩:=Vd (l:=l) (k:=k') (by omega)
     have d0:=Yc.out a hD (by simpa using ha)
     rw [Nat.add_sub_cancel] at d0
     have hkc:(((k'+1:Nat):Int))=(k':Int)+1:=by omega
     have hsub:IntKind.i64.wrap (((k'+1:Nat):Int) - 1)=(k':Int):=by have:=Oc.out;rw [IntWalk.i64_in _ (by omega)];omega
     have hsub2:(((k'+1:Nat):Int) - 1)=(k':Int):=by omega
     have hkl:(k':Int) < (l.length:Int):=by omega
     have abl:IntKind.i64.wrap ((k':Int)+1 - 1)=(k':Int):=by have:=Oc.out;rw [IntWalk.i64_in _ (by omega)];omega
     have abm:((k':Int)+1 - 1)=(k':Int):=by omega
     have qD2:(0:Int) < (k':Int)+1:=by omega
     have abn:IntKind.i64.wrap (k':Int)=(k':Int):=by have:=Oc.out;exact IntWalk.i64_in _ (by omega)
     have abQ:k' < l.length:=by omega
     have hw3:wrap64 ((k':Int)+1+1)=((k'+1:Nat):Int)+1:=by have:=Oc.out;unfold wrap64;omega
     have hb3:=dh.cells #[.int .i64 id,.int .u32 addr,.int .i64 wt] 103
     have y0:(wr.alloc (.cells #[.int .i64 id,.int .u32 addr,.int .i64 wt] 103)).cell? ⟨wr.heap.size,0,none⟩=some (.int .i64 id):=cell_of (hb3.block 0 rfl) rfl
     have y2:(wr.alloc (.cells #[.int .i64 id,.int .u32 addr,.int .i64 wt] 103)).cell? ⟨wr.heap.size,2,none⟩=some (.int .i64 wt):=cell_of (hb3.block 0 rfl) rfl
     have y3:(wr.alloc (.cells #[.int .i64 id,.int .u32 addr,.int .i64 wt] 103)).cell? ⟨g,o+k' * 3,none⟩=some (.int .i64 a.id):=by rw [World.cell?_alloc_lt _ _ _ (World.block_lt_of_cell? _ _ d0)];exact d0
     clear hb3
     by_cases hE:id≤a.id
     ·have Yd:=Lib.hid (HX.out (by unfold yl;rw [hmb,hla];simp;omega))
      clear HX HN Yc dh hall hup hb hlt hk hmb hA hB hin hC hD ha hla hkc
      go_wp2_with fail
      go_region_held3 (fun w'=>w'.cell? ⟨wr.heap.size,0,none⟩=some (.int .i64 id)∧w'.cell? ⟨wr.heap.size,2,none⟩=some (.int .i64 wt)∧w'.cell? ⟨g,o+k' * 3,none⟩=some (.int .i64 a.id)) (first | exact⟨y0,y2,y3⟩ | go_keep) (first | (go_at_call 203;refine (KW.out _).mono ?_;rintro e w5 ⟨rfl,rfl⟩))
      go_wp2_with fail
      go_ret
      exact Yd.out _ (Yb.out _ 1)
     ·have qE:decide (id≤a.id)=false:=decide_eq_false hE
      have vH:=Lib.hid (HN.out (by unfold yl;rw [hmb,hla];simp;omega))
      clear HX HN Yc dh hall hup hb hlt hk hmb hA hB hin hC hD ha hla hE hkc
      go_wp2_with fail
      go_region_held3 (fun w'=>w'.cell? ⟨wr.heap.size,0,none⟩=some (.int .i64 id)∧w'.cell? ⟨wr.heap.size,2,none⟩=some (.int .i64 wt)∧w'.cell? ⟨g,o+k' * 3,none⟩=some (.int .i64 a.id)) (first | exact⟨y0,y2,y3⟩ | go_keep) (first | (go_at_call 203;refine (KW.out _).mono ?_;rintro e w5 ⟨rfl,rfl⟩))
      go_wp2_with fail
      go_roundw
      case rel=>(try rw [hw2]);(try rw [hw3]);exact vH.out _ (Yb.out _ 1)
      case measure=>(try rw [hw2]);(try rw [hw3]);exact dS hlt'
  ·have hge:(l.length:Int)≤(k:Int):=Int.ofNat_le.2 (Nat.le_of_not_lt hlt)
   have hkl:l.take k=l:=List.take_of_length_le (Nat.le_of_not_lt hlt)
   rw [hkl] at hall hup
   have e:fu l=true:=by
    unfold fu
    rw [decide_eq_true Oc.out,hup,List.all_eq_true.2 hall];rfl
   have G:Hid (BA (fu l) F0 w0 R (.returned (.bool true)) wr):=Lib.hid ⟨by rw [e],dh⟩
   clear dh hkl hall hup hk hlt e
   go_wp2_with fail
   go_ret
   exact G.out
end
end Go.Proofs.YtanhdliaaccacaaGreat
