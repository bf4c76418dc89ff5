/- Rows.LogSizesCardSaid -/
import Derived.Test.YtaopfagclnocdaaGreatDoorLS15
import Derived.Test.YtaopfagclnocdaaGreatDoorLS16
import Derived.Test.YtaopfagclnocdaaGreatDoorLS13
import Derived.Test.YtaopfagclnocdaaGreatDoorLS14
import Derived.Deep.RegionHeld3
import Derived.LoopTactic
import Derived.StillTailTactics
import Derived.Test.YtaopfagclnocdaaGreatDoorLS1
import Derived.ProofKit
import Derived.SliceStrings
import Derived.Deep.Slices
import Derived.Deep.Fields
import Derived.Test.YtaopfagclnocdaaGreatDoorLS3
import Derived.Lib.SmallJoins
import Derived.Test.YtaopfagclnocdaaGreatDoorLS9
import Derived.Test.YtaopfagclnocdaaGreatDoorLS7
import Derived.BigQuiet
import Derived.Deep.QuietTactic
namespace Go.Proofs.YtaopfagclnocdaaGreatDoor
open Go.RowKit
open Go.RowKit Go.ChangeShapes Go.WideShapes Go.Deep
set_option linter.unusedVariables false
set_option maxHeartbeats 64000000
set_option maxRecDepth 100000
def Frz (b:Nat) (C:Array Value) (T:TypeId) (fz:Nat×Nat):Asrt:=fun w F=>F=[b]∧w.heap[b]?=some (.cells C T fz)
theorem Frz.framed (b:Nat) (C:Array Value) (T:TypeId) (fz:Nat×Nat):Framed (Frz b C T fz):=
 ⟨fun h hk=>⟨h.1,by rw [hk b (by rw [h.1];simp)];exact h.2⟩,fun h b' hb=>by rw [h.1] at hb;simp at hb;subst hb;exact hp_lt h.2⟩
theorem In.frz {F0:List Nat} {w0 w:World} {R:List Asrt} (h:In F0 w0 w R) (C:Array Value) (T:TypeId) (fz:Nat×Nat):In F0 w0 (w.alloc (.cells C T fz)) (Frz w.heap.size C T fz::R):=by
 obtain⟨F,hs,hF⟩:=h.star
 have fr:=Framed.star h.framed
 refine⟨fun B hB=>?_,⟨[w.heap.size]++F,⟨[w.heap.size],F,⟨rfl,hp_alloc_new⟩,fr.keep hs (fun b hb=>hp_alloc_old (fr.lt hs b hb)),?_,rfl⟩,?_⟩,h.mod.alloc _⟩
 ·rcases List.mem_cons.1 hB with rfl | hB
  ·exact Frz.framed _ _ _ _
  ·exact h.framed B hB
 ·intro b hb hbF
  simp at hb;subst hb
  exact absurd (fr.lt hs _ hbF) (by omega)
 ·intro b hb
  simp at hb
  rcases hb with rfl | hb
  ·exact Or.inr h.mod.size
  ·exact hF b hb
theorem In.fblock {F0:List Nat} {w0 w:World} {R:List Asrt} (h:In F0 w0 w R) (i:Nat) {b:Nat} {C:Array Value} {T:TypeId} {fz:Nat×Nat} (hA:R[i]?=some (Frz b C T fz)):w.heap[b]?=some (.cells C T fz):=by
 obtain⟨F,hF⟩:=h.get i hA
 exact hF.2
def aw1:DiskD×Option LogD×Int:=createD 3 100 (dNew 5000)
def awL:LogD:=aw1.2.1.getD default
def aw2:DL×Int:=appendL 1 [120] (aw1.1,awL)
def aw3:DL×Int:=syncL aw2.1
def aw4:DL×Int:=appendL 1 [121] aw3.1
def aw5:DiskD:=dCrash aw4.1.1 [0,0,5]
def aw6:Nat×DiskD×Option LogD×Int:=openL countF 100 aw5 0
def lgOkB (l:LogD):Bool:=decide (16≤l.size∧l.size≤1048576) && mayM l.m
theorem lgOk_of {l:LogD} (h:lgOkB l=true):LgOk l:=by
 simp only [lgOkB,Bool.and_eq_true,decide_eq_true_eq] at h
 exact⟨h.1.1,h.1.2,h.2⟩
theorem aw_facts:aw1.2.1.isSome=true∧aw1.2.2=0∧aw2.2=0∧aw3.2=0∧aw4.2=0∧aw6.2.2.2=0∧aw6.1=1∧lgOkB awL=true∧lgOkB aw2.1.2=true∧lgOkB aw3.1.2=true∧aw1.1.ops≤1000∧aw2.1.1.ops≤1000∧aw3.1.1.ops≤1000∧aw4.1.1.ops≤1000∧aw5.ops≤1000:=by decide +kernel
section
variable {F0:List Nat} {w0 w:World} {R:List Asrt}
theorem aw_some:aw1.2.1=some awL:=by
 have h:=aw_facts.1
 unfold awL
 cases e:aw1.2.1 with
 | none=>rw [e] at h;cases h
 | some l=>rfl
theorem CreatePost.some {bd:Nat} {r:DiskD×Option LogD×Int} {l:LogD} {e:Ending} {w':World} (h:CreatePost bd r F0 w0 R e w') (hl:r.2.1=some l):∃ lb,e=.returned (.tuple #[dptr lb,.int .i64 r.2.2])∧In F0 w0 w' (LgA lb bd l::DkA bd r.1::R):=by
 unfold CreatePost at h;rw [hl] at h;exact h
theorem cells_src {g:Nat} {C:Array Value} {T:TypeId} {fz:Nat×Nat} {bs:List UInt8} (i:Nat) {w':World} (h:In F0 w0 w' R) (hA:R[i]?=some (Frz g C T fz)) (hC:C.toList=u8s bs):Src w' (some ⟨g,0,none⟩) bs.length 1 (u8s bs):=
 ⟨by simp [u8s_length],fun h0=>⟨_,rfl,fun k u hu=>by
  rw [add_at]
  refine cell_of (h.fblock i hA) ?_
  rw [Nat.zero_add,← hu,← hC,Array.getElem?_toList]⟩⟩
theorem OpenPost.weak {σ:Type} {Acc:σ→Asrt} {bd:Nat} {r:σ×DiskD×Option LogD×Int} {e:Ending} {w':World} (h:OpenPost Acc bd r F0 w0 R e w'):∃ p,e=.returned (.tuple #[p,.int .i64 r.2.2.2])∧In F0 w0 w' (Acc r.1::DkA bd r.2.1::R):=by
 unfold OpenPost at h
 split at h
 ·exact⟨_,h.1,h.2⟩
 ·obtain⟨lb,h1,h2⟩:=h
  exact⟨_,h1,h2.drop⟩
theorem o_awake6 (h:In F0 w0 w R):Calls Tryz.prog 6 #[] w fun e w'=>e=.returned (.bool true)∧In F0 w0 w' R:=by
 obtain⟨f1,f2,f3,f4,f5,f6,f7,l1,l2,l3,o1,o2,o3,o4,o5⟩:=aw_facts
 have K0:=Lib.hid (o_dnew h 5000 (by omega) (by omega))
 have K1:=Lib.hid (fun bd w' (h':In F0 w0 w' (DkA bd (dNew 5000)::R))=>o_create h' (by decide) 3 100)
 have K2:=Lib.hid (fun bd lb g w' (h':In F0 w0 w' (LgA lb bd awL::DkA bd aw1.1::Frz g #[.int .u8 120] 5 (1,2)::R))=>o_append h' (lgOk_of l1) (by omega) 1 (body:=[120]) (A:=some ⟨g,0,none⟩) (c:=1) (by decide) (fun w2 h2=>cells_src 0 h2 rfl rfl))
 have K3:=Lib.hid (fun bd lb w' (h':In F0 w0 w' (LgA lb bd aw2.1.2::DkA bd aw2.1.1::R))=>o_lsync h' (lgOk_of l2) (by omega))
 have K4:=Lib.hid (fun bd lb g w' (h':In F0 w0 w' (LgA lb bd aw3.1.2::DkA bd aw3.1.1::Frz g #[.int .u8 121] 5 (1,2)::R))=>o_append h' (lgOk_of l3) (by omega) 1 (body:=[121]) (A:=some ⟨g,0,none⟩) (c:=1) (by decide) (fun w2 h2=>cells_src 0 h2 rfl rfl))
 have K5:=Lib.hid (fun bd g w' (h':In F0 w0 w' (DkA bd aw4.1.1::Cells g #[.int .u8 0,.int .u8 0,.int .u8 5] 5::R))=>o_dcrash_cells h' (by omega) (p:=[0,0,5]) 0 rfl rfl (by decide))
 have K6:=Lib.hid (fun bd vb w' (h':In F0 w0 w' (CountA vb 0::DkA bd aw5::R))=>o_open (count_each vb) 0 (by omega) h' (by omega) 100)
 simp only [List.length_cons,List.length_nil,Nat.zero_add,Nat.reduceAdd] at K2 K4 K5
 have HH:=Lib.hid h
 have E1:=Lib.hid f2
 have E2:=Lib.hid f3
 have E3:=Lib.hid f4
 have E4:=Lib.hid f5
 have E6:=Lib.hid f6
 have E7:=Lib.hid f7
 clear h f1 f2 f3 f4 f5 f6 f7 l1 l2 l3 o1 o2 o3 o4 o5
 go_enter Tryz.func6,Tryz.ntmps6
 go_wp2_with fail
 refine K0.out.mono ?_
 rintro e w1 ⟨bd,rfl,g1⟩
 have C1:=Lib.hid (K1.out bd w1 g1)
 clear g1 K0 K1
 go_wp2_with fail
 refine C1.out.mono ?_
 intro e w2 hp
 obtain⟨lb,rfl,g2⟩:=hp.some aw_some
 rw [show createD 3 100 (dNew 5000)=aw1 from rfl,E1.out]
 have g3:=g2.frz #[.int .u8 120] 5 (1,2)
 have kc:=Lib.run_convert_bytes_const (P:=Tryz.prog) w2 32 5 #[.int .u8 120] 1 1 Tryz.underlying32 Tryz.underlying5
 have C2:=Lib.hid (K2.out bd lb _ _ (g3.sel2 (R1:=[_,_,_]) [1,2,0] (by decide) rfl))
 clear g2 g3 hp C1 K2
 go_wp2_with fail
 refine C2.out.mono ?_
 rintro e w3 ⟨rfl,g4⟩
 rw [show (appendL 1 [120] (aw1.1,awL))=aw2 from rfl,E2.out]
 have C3:=Lib.hid (K3.out bd lb w3 (g4.sel2 (R1:=[_,_,_]) [0,1] (by decide) rfl))
 clear g4 C2 K3 kc
 go_wp2_with fail
 refine C3.out.mono ?_
 rintro e w4 ⟨rfl,g5⟩
 rw [show syncL (aw2.1.1,aw2.1.2)=aw3 from rfl,E3.out]
 have g6:=g5.frz #[.int .u8 121] 5 (1,2)
 have kc:=Lib.run_convert_bytes_const (P:=Tryz.prog) w4 32 5 #[.int .u8 121] 1 1 Tryz.underlying32 Tryz.underlying5
 have C4:=Lib.hid (K4.out bd lb _ _ (g6.sel2 (R1:=[_,_,_]) [1,2,0] (by decide) rfl))
 clear g5 g6 C3 K4
 go_wp2_with fail
 refine C4.out.mono ?_
 rintro e w5 ⟨rfl,g7⟩
 rw [show (appendL 1 [121] (aw3.1.1,aw3.1.2))=aw4 from rfl,E4.out]
 have g8:=(g7.sel2 (R1:=[_,_,_]) [1] (by decide) rfl).cells #[.int .u8 0,.int .u8 0,.int .u8 5] 5
 have C5:=Lib.hid (K5.out bd _ _ (g8.sel2 (R1:=[_,_]) [1,0] (by decide) rfl))
 clear g7 g8 C4 K5 kc
 go_wp2_with fail
 refine C5.out.mono ?_
 rintro e w6 ⟨rfl,g9⟩
 have g10:=(g9.sel2 (R1:=[_,_]) [0] (by decide) rfl).cells #[.int .i64 0] 3
 have C6:=Lib.hid (K6.out bd _ _ g10)
 clear g9 g10 C5 K6
 go_wp2_with fail
 refine C6.out.mono ?_
 intro e w7 hp
 obtain⟨p,rfl,g11⟩:=hp.weak
 rw [show openL countF 100 aw5 0=aw6 from rfl] at g11 ⊢
 rw [E6.out]
 rw [E7.out] at g11
 have c0:w7.cell? ⟨w6.heap.size,0,none⟩=some (.int .i64 1):=cell_of (g11.block 0 rfl) rfl
 have G:=Lib.hid g11.drop.drop
 clear g11 hp C6
 go_wp2_with fail
 go_ret
 exact⟨rfl,G.out⟩
end
section
variable {F0:List Nat} {w0 w:World} {R:List Asrt}
theorem o_samefr {f g:FrD} {A B:Option Addr} {c c':Nat} (h:In F0 w0 w R) (ha:Src w A f.body.length 1 (u8s f.body)) (hb:Src w B g.body.length 1 (u8s g.body)) (ha0:A=none→f.body.length=0) (hb0:B=none→g.body.length=0) :
  Calls Tryz.prog 55 #[.agg #[.int .i64 f.kind,.int .i64 f.ver,.slice A f.body.length c],.agg #[.int .i64 g.kind,.int .i64 g.ver,.slice B g.body.length c']] w fun e w'=>e=.returned (.bool (decide (f.kind=g.kind∧f.ver=g.ver∧f.body=g.body)))∧In F0 w0 w' R:=by
 have h2:=(h.cells #[.int .i64 f.kind,.int .i64 f.ver,.slice A f.body.length c] 35).cells #[.int .i64 g.kind,.int .i64 g.ver,.slice B g.body.length c'] 35
 simp only [World.size_alloc] at h2
 have k1:=conv_str (l:=f.body) (cap:=c) (src_alloc (src_alloc ha (.cells #[.int .i64 f.kind,.int .i64 f.ver,.slice A f.body.length c] 35)) (.cells #[.int .i64 g.kind,.int .i64 g.ver,.slice B g.body.length c'] 35)) ha0
 have k2:=conv_str (l:=g.body) (cap:=c') (src_alloc (src_alloc hb (.cells #[.int .i64 f.kind,.int .i64 f.ver,.slice A f.body.length c] 35)) (.cells #[.int .i64 g.kind,.int .i64 g.ver,.slice B g.body.length c'] 35)) hb0
 have c0:((w.alloc (.cells #[.int .i64 f.kind,.int .i64 f.ver,.slice A f.body.length c] 35)).alloc (.cells #[.int .i64 g.kind,.int .i64 g.ver,.slice B g.body.length c'] 35)).cell? ⟨w.heap.size,0,none⟩=some (.int .i64 f.kind):=cell_of (h2.block 1 rfl) rfl
 have c1:((w.alloc (.cells #[.int .i64 f.kind,.int .i64 f.ver,.slice A f.body.length c] 35)).alloc (.cells #[.int .i64 g.kind,.int .i64 g.ver,.slice B g.body.length c'] 35)).cell? ⟨w.heap.size,1,none⟩=some (.int .i64 f.ver):=cell_of (h2.block 1 rfl) rfl
 have c2:((w.alloc (.cells #[.int .i64 f.kind,.int .i64 f.ver,.slice A f.body.length c] 35)).alloc (.cells #[.int .i64 g.kind,.int .i64 g.ver,.slice B g.body.length c'] 35)).cell? ⟨w.heap.size,2,none⟩=some (.slice A f.body.length c):=cell_of (h2.block 1 rfl) rfl
 have G:=Lib.hid h2.drop.drop
 by_cases e1:f.kind=g.kind
 ·have q1:((f.kind:Int) == (g.kind:Int))=true:=by simp [e1]
  by_cases e2:f.ver=g.ver
  ·have q2:((f.ver:Int) == (g.ver:Int))=true:=by simp [e2]
   have HD:Hid (decide (f.kind=g.kind∧f.ver=g.ver∧f.body=g.body)=(f.body == g.body)):=Lib.hid (by by_cases hb:f.body=g.body <;> simp [e1,e2,hb])
   have HB:Hid (((⟨f.body.toArray⟩:ByteArray).toList == (⟨g.body.toArray⟩:ByteArray).toList)=(f.body == g.body)):=Lib.hid (by rw [ByteArray.toList_mk,ByteArray.toList_mk])
   clear h h2 ha hb ha0 hb0 e1 e2
   rw [HD.out]
   go_enter Tryz.func55,Tryz.ntmps55
   go_wp2_with fail
   go_ret
   exact⟨rfl,G.out⟩
  ·have q2:((f.ver:Int) == (g.ver:Int))=false:=by simp;omega
   have HD:Hid (decide (f.kind=g.kind∧f.ver=g.ver∧f.body=g.body)=false):=Lib.hid (by simp [e2])
   clear h h2 ha hb ha0 hb0 e1 e2 k1 k2
   rw [HD.out]
   go_enter Tryz.func55,Tryz.ntmps55
   go_wp2_with fail
   go_ret
   exact⟨rfl,G.out⟩
 ·have q1:((f.kind:Int) == (g.kind:Int))=false:=by simp;omega
  have HD:Hid (decide (f.kind=g.kind∧f.ver=g.ver∧f.body=g.body)=false):=Lib.hid (by simp [e1])
  clear h h2 ha hb ha0 hb0 e1 k1 k2
  rw [HD.out]
  go_enter Tryz.func55,Tryz.ntmps55
  go_wp2_with fail
  go_ret
  exact⟨rfl,G.out⟩
end
structure FrCell (w:World) (g o:Nat) (f:FrD) (A:Option Addr) (c:Nat):Prop where
 kind:w.cell? ⟨g,o,none⟩=some (.int .i64 f.kind)
 ver:w.cell? ⟨g,o+1,none⟩=some (.int .i64 f.ver)
 val:w.cell? ⟨g,o+2,none⟩=some (.slice A f.body.length c)
 body:Src w A f.body.length 1 (u8s f.body)
 nil:A=none→f.body.length=0
def FrAt (w:World) (a:Option Addr) (fs:List FrD):Prop:=∀ k f,fs[k]?=some f→∃ g o A c,a=some ⟨g,o,none⟩∧FrCell w g (o+k * 3) f A c
theorem bodiesR_at {vs:List Value} {fs:List FrD} {k:Nat} {f:FrD} {v:Value} (h1:vs[k]?=some v) (h2:fs[k]?=some f):(bodiesR vs fs)[k]?=some (bodyA v f):=by
 induction k generalizing vs fs with
 | zero=>
  cases vs with
  | nil=>simp at h1
  | cons u vs=>
   cases fs with
   | nil=>simp at h2
   | cons g fs=>simp at h1 h2;subst h1 h2;rfl
 | succ k ih=>
  cases vs with
  | nil=>simp at h1
  | cons u vs=>
   cases fs with
   | nil=>simp at h2
   | cons g fs=>simp at h1 h2;exact ih h1 h2
theorem frsA_at {w:World} {a:Option Addr} {n c:Nat} {fs:List FrD} {F:List Nat} (h:FrsA (.slice a n c) fs w F):n=fs.length∧FrAt w a fs:=by
 obtain⟨vs,hl,F1,F2,h1,h2,h3,rfl⟩:=h
 refine⟨h1.at.1,fun k f hf=>?_⟩
 obtain⟨v,hv⟩:∃ v,vs[k]?=some v:=⟨vs[k]'(by have:=(List.getElem?_eq_some_iff.1 hf).1;omega),List.getElem?_eq_getElem _⟩
 obtain⟨e0,e1,e2⟩:=flatFr_at hl hf hv
 obtain⟨g,rfl,c0⟩:=h1.at.2 _ _ e0
 obtain⟨g',hg',c1⟩:=h1.at.2 _ _ e1
 cases hg'
 obtain⟨g',hg',c2⟩:=h1.at.2 _ _ e2
 cases hg'
 obtain⟨G,hG,_⟩:=star_apart.star_one h2 (bodiesR_at hv hf)
 obtain⟨A,cv,rfl,-,-,-⟩:=RowA.shape hG
 have hb:=RowA.all hG
 refine⟨g,0,A,cv,rfl,?_,?_,?_,hb,fun e=>?_⟩
 ·simpa using c0
 ·simpa using c1
 ·simpa using c2
 ·subst e
  rcases Nat.eq_zero_or_pos f.body.length with h0 | h0
  ·exact h0
  ·obtain⟨ad,e,_⟩:=hb.at' h0
   cases e
theorem Src.drew {w:World} {A:Option Addr} {n k:Nat} {xs:List Value} (h:Src w A n k xs):Src (w.drewN 1) A n k xs:=⟨h.len,fun h0=>by
 obtain⟨ad,e,hc⟩:=h.at' h0
 exact⟨ad,e,fun j u hu=>hc j u hu⟩⟩
section
variable {F0:List Nat} {w0 w:World} {R:List Asrt}
def SameRel (fs gs:List FrD) (F0:List Nat) (w0:World) (R:List Asrt) (i:Value) (wr:World):Prop:=
 ∃ k:Nat,k≤fs.length∧i=.int .i64 k∧fs.take k=gs.take k∧In F0 w0 wr R
theorem frd_same {f g:FrD}:decide (f.kind=g.kind∧f.ver=g.ver∧f.body=g.body)=decide (f=g):=by
 cases f;cases g;simp
theorem o_samefs {fs gs:List FrD} {a b:Option Addr} {ca cb:Nat} (h:In F0 w0 w R) (ha:∀ w',In F0 w0 w' R→FrAt w' a fs) (hb:∀ w',In F0 w0 w' R→FrAt w' b gs) (hl:fs.length≤1000000000) (hl2:gs.length≤1000000000) :
  Calls Tryz.prog 15 #[.slice a fs.length ca,.slice b gs.length cb] w fun e w'=>e=.returned (.bool (decide (fs=gs)))∧In F0 w0 w' R:=by
 by_cases hlen:fs.length=gs.length
 case neg=>
  have q:((fs.length:Int) != (gs.length:Int))=true:=by rw [bne_iff_ne];omega
  have HD:Hid (decide (fs=gs)=false):=Lib.hid (by rw [decide_eq_false_iff_not];exact fun e=>hlen (by rw [e]))
  have G:=Lib.hid h
  clear h ha hb hlen
  rw [HD.out]
  go_enter Tryz.func15,Tryz.ntmps15
  go_wp2_with fail
  go_ret
  exact⟨rfl,G.out⟩
 have HA:=Lib.hid ha
 have HB:=Lib.hid hb
 have HR:Hid (SameRel fs gs F0 w0 R (.int .i64 0) w):=Lib.hid ⟨0,Nat.zero_le _,rfl,rfl,h⟩
 have HLN:=Lib.hid hlen
 have q:((fs.length:Int) != (gs.length:Int))=false:=by simp [hlen]
 clear h ha hb hlen
 go_enter Tryz.func15,Tryz.ntmps15
 go_wp2_with fail
 go_loopw [13] (SameRel fs gs F0 w0 R) (fun k _=>fs.length - (intOf k).toNat)
 case atStart=>exact HR.out
 case round=>
  obtain⟨k,hk,rfl,ht,ho⟩:=hrel
  clear HR
  by_cases hlt:k < fs.length
  ·obtain⟨f,hf⟩:∃ f,fs[k]?=some f:=⟨fs[k],List.getElem?_eq_getElem hlt⟩
   obtain⟨g,hg⟩:∃ g,gs[k]?=some g:=⟨gs[k]'(by rw [← HLN.out];exact hlt),List.getElem?_eq_getElem _⟩
   obtain⟨ga,oa,Ab,cb1,rfl,x⟩:=HA.out wr ho k f hf
   obtain⟨gb,ob,Bb,cb2,rfl,y⟩:=HB.out wr ho k g hg
   have KS:=Lib.hid (o_samefr (c:=cb1) (c':=cb2) (ho.drewN 1) (x.body.drew) (y.body.drew) x.nil y.nil)
   rw [frd_same] at KS
   have c0:=x.kind
   have c1:=x.ver
   have c2:=x.val
   have d0:=y.kind
   have d1:=y.ver
   have d2:=y.val
   have hlt':(k:Int) < (fs.length:Int):=by omega
   have hltb:(k:Int) < (gs.length:Int):=by have:=HLN.out;omega
   have hw2:wrap64 ((k:Int)+1)=(k:Int)+1:=by unfold wrap64;omega
   have HT:=Lib.hid (And.intro ht (And.intro hf hg))
   clear ho x y ht hf hg
   by_cases hfg:f=g
   ·have HE:Hid (decide (f=g)=true):=Lib.hid (by simp [hfg])
    have HS:Hid (∀ w',In F0 w0 w' R→SameRel fs gs F0 w0 R (.int .i64 ((k:Int)+1)) w'):=Lib.hid fun w' h'=>⟨k+1,by omega,by go_num,by
     obtain⟨t1,t2,t3⟩:=HT.out
     rw [List.take_add_one,List.take_add_one,t2,t3,t1,hfg],h'⟩
    rw [HE.out] at KS
    clear hfg HT
    go_wp2_with fail
    go_still_tail 8,(by kernel_rfl)
    change wpList _ _ _ _ _ wr.drew
    go_wp2_with fail
    refine KS.out.mono ?_
    rintro e w1 ⟨rfl,h1⟩
    have HS2:=Lib.hid (HS.out w1 h1)
    clear h1 HS KS
    go_wp2_with fail
    go_roundw
    case rel=>(try rw [hw2]);exact HS2.out
    case measure=>(try rw [hw2]);simp [intOf];omega
   ·have HE:Hid (decide (f=g)=false):=Lib.hid (by simp [hfg])
    have HD:Hid (decide (fs=gs)=false):=Lib.hid (by
     rw [decide_eq_false_iff_not]
     obtain⟨t1,t2,t3⟩:=HT.out
     intro e;rw [e,t3] at t2;exact hfg (Option.some.inj t2).symm)
    rw [HE.out] at KS
    clear hfg HT
    go_wp2_with fail
    go_still_tail 8,(by kernel_rfl)
    change wpList _ _ _ _ _ wr.drew
    go_wp2_with fail
    refine KS.out.mono ?_
    rintro e w1 ⟨rfl,h1⟩
    have G:=Lib.hid h1
    clear h1 KS
    go_wp2_with fail
    go_ret
    exact⟨by rw [HD.out];rfl,G.out⟩
  ·have hge:(fs.length:Int)≤(k:Int):=by omega
   obtain rfl:k=fs.length:=by omega
   have HD:Hid (decide (fs=gs)=true):=Lib.hid (by
    rw [decide_eq_true_iff]
    rw [List.take_length,HLN.out,List.take_length] at ht
    exact ht)
   have G:=Lib.hid ho
   clear ho ht hlt
   go_wp2_with fail
   go_ret
   exact⟨by rw [HD.out];rfl,G.out⟩
end
theorem exists_list {α:Type} {p:Nat→α→Prop}:∀ (n:Nat),(∀ i,i < n→∃ x,p i x)→∃ l:List α,l.length=n∧∀ i (hi:i < l.length),p i l[i]
 | 0,_=>⟨[],rfl,fun i hi=>by simp at hi⟩
 | n+1,h=>by
  obtain⟨l,hl,hp⟩:=exists_list n (fun i hi=>h i (by omega))
  obtain⟨x,hx⟩:=h n (by omega)
  refine⟨l++[x],by simp [hl],fun i hi=>?_⟩
  by_cases hin:i < l.length
  ·rw [List.getElem_append_left hin];exact hp i hin
  ·have:i=l.length:=by simp at hi;omega
   subst this
   simpa [hl] using hx
structure ArgStrs (w:World) (a:Option Addr) (len cap:Nat) (ss:List ByteArray):Prop where
 length:ss.length=len
 room:len≤cap
 most:cap≤maxLen
 small:∀ s∈ss,s.size≤maxLen
 at':len=0∨∃ b o,a=some ⟨b,o,none⟩∧b < w.heap.size∧∀ i (hi:i < ss.length),w.cell? ⟨b,o+i,none⟩=some (.string ss[i])
structure ArgInts (k:IntKind) (w:World) (a:Option Addr) (len cap:Nat) (zs:List Int):Prop where
 length:zs.length=len
 room:len≤cap
 most:cap≤maxLen
 small:∀ n∈zs,(Lit.int k n).wf=true
 at':len=0∨∃ b o,a=some ⟨b,o,none⟩∧b < w.heap.size∧∀ i (hi:i < zs.length),w.cell? ⟨b,o+i,none⟩=some (.int k zs[i])
section
variable {H:Type} {enc:TypeId×Value→H} {P:Program} {w:World} {base:Nat} {spare:Nat→Bool} {held:Bool}
theorem addr_none {a:Addr} {v:Value} (h:w.cell? (a.add 0)=some v):a=⟨a.block,a.off,none⟩:=by
 have:a.add 0=a:=by simp [Addr.add]
 rw [this] at h
 have:=World.cell?_spot h
 cases a;simp at this;simp [this]
theorem add_plain (b o i:Nat):(⟨b,o,none⟩:Addr).add i=⟨b,o+i,none⟩:=by
 unfold Addr.add;split
 ·simp
 ·rfl
end
structure AB (w:World) (v:Value) (bs:List UInt8):Prop where
 ex:∃ a c,v=.slice a bs.length c∧Src w a bs.length 1 (u8s bs)∧bs.length≤c∧c≤maxLen
structure ArgCellsOf {α:Type} (Rd:World→Value→α→Prop) (w:World) (a:Option Addr) (len cap:Nat) (L:List α):Prop where
 length:L.length=len
 room:len≤cap
 most:cap≤maxLen
 at':∀ i x,L[i]?=some x→∃ g o v,a=some ⟨g,o,none⟩∧w.cell? ⟨g,o+i,none⟩=some v∧Rd w v x
abbrev ArgBss:=ArgCellsOf AB
section
variable {H:Type} {enc:TypeId×Value→H} {P:Program} {w:World} {base:Nat} {spare:Nat→Bool} {held:Bool}
theorem openAB {T E:TypeId} (ht:P.underlying T=some (.slice E)) (he:P.underlying E=some (.int .u8)) (hc:P.cellsOf E=1) {fuel:Nat} {cs:List Value} {y:DataW H×List MemPlace}
  (h:DataW.trod enc P w base spare held fuel T cs=some y):∃ v bs,cs=[v]∧AB w v bs:=by
 rcases open_ints ht he hc h with ⟨hcs,_⟩|⟨x,l,c,zs,hcs,_,hl,hm,hz,_,hcell,hws⟩
 ·exact⟨_,[],hcs,none,0,rfl,Src.nil _ _ _,Nat.le_refl _,Nat.zero_le _⟩
 ·have hle:l≤zs.length:=by rw [hz];split <;> omega
  refine⟨_,(zs.take l).map (fun z=>UInt8.ofNat z.toNat),hcs,some x,c,by simp;omega,⟨by simp [u8s],fun h0=>?_⟩,by simp;omega,hm⟩
  refine⟨x,rfl,fun j u hu=>?_⟩
  have hlen:((zs.take l).map (fun z=>UInt8.ofNat z.toNat)).length=l:=by simp;omega
  have hj:j < l:=by
   have:=(List.getElem?_eq_some_iff.1 hu).1
   rw [u8s_length,hlen] at this;exact this
  have h1:=hcell j (by omega)
  rw [h1]
  have hw:(Lit.int .u8 zs[j]).wf=true:=hws _ (List.getElem_mem (by omega))
  have hb:0≤zs[j]∧zs[j] < 256:=by
   have hmin:IntKind.u8.min=0:=rfl
   have hmax:IntKind.u8.max=255:=rfl
   simp only [Lit.wf,Bool.and_eq_true,decide_eq_true_eq] at hw
   rw [hmin,hmax] at hw
   omega
  have hgl:(u8s ((zs.take l).map (fun z=>UInt8.ofNat z.toNat)))[j]?=some (.int .u8 zs[j]):=by
   simp only [u8s,List.map_map,List.getElem?_map,List.getElem?_take,hj,if_true,List.getElem?_eq_getElem (show j < zs.length by omega),Option.map_some,Function.comp]
   congr 2
   rw [UInt8.toNat_ofNat']
   omega
  rw [hgl] at hu
  rw [← hu]
  congr 2
  rw [List.getD_eq_getElem?_getD,List.getElem?_eq_getElem (show j < zs.length by omega)];rfl
theorem openCells {α:Type} {Rd:World→Value→α→Prop} {T E:TypeId} (ht:P.underlying T=some (.slice E)) (hc:P.cellsOf E=1) (hone:∀ n v y,DataW.trod enc P w base spare held n E [v]=some y→∃ x,Rd w v x) {a:Option Addr} {len cap fuel:Nat} {y:DataW H×List MemPlace}
  (h:DataW.trod enc P w base spare held fuel T [.slice a len cap]=some y):∃ L,ArgCellsOf Rd w a len cap L:=by
 rcases open_slice1 ht hc h with ⟨hcs,_⟩|⟨x,l,c,m,n,V,D,Pl,hcs,_,hl,hm,hmm,_,hi⟩
 ·simp at hcs
  obtain⟨rfl,rfl,rfl⟩:=hcs
  exact⟨[],rfl,Nat.le_refl _,Nat.zero_le _,by simp⟩
 ·simp at hcs
  obtain⟨rfl,rfl,rfl⟩:=hcs
  have hle:len≤m:=by rw [hmm];split <;> omega
  obtain⟨L,hL,hp⟩:=exists_list (p:=fun i z=>Rd w (V i) z) len (fun i hil=>hone _ _ _ (hi i (by omega)).2)
  refine⟨L,hL,hl,hm,fun i z hz=>?_⟩
  obtain⟨hil,rfl⟩:=List.getElem?_eq_some_iff.1 hz
  have h0:=(hi 0 (by omega)).1
  have e:=addr_none h0
  have h1:=(hi i (by omega)).1
  refine⟨x.block,x.off,V i,by rw [← e],?_,hp i hil⟩
  rw [e] at h1
  rw [add_plain] at h1
  exact h1
theorem openBss {T E B:TypeId} (ht:P.underlying T=some (.slice E)) (he:P.underlying E=some (.slice B)) (hb:P.underlying B=some (.int .u8)) (hc:P.cellsOf E=1) (hcb:P.cellsOf B=1) {a:Option Addr} {len cap:Nat} {d:DataW H} {p:List MemPlace}
  (h:DataW.Trod enc P w base spare held T (.slice a len cap) d p):∃ L,ArgBss w a len cap L:=by
 obtain⟨fuel,hf⟩:=h
 refine openCells ht hc (fun n v y hy=>?_) (by simpa [Value.cells] using hf)
 obtain⟨v',bs,e,hb⟩:=openAB he hb hcb hy
 cases e
 exact⟨bs,hb⟩
end
section
variable {w0 w:World} {R:List Asrt}
theorem cell_old (h:Own w0 w R) {a:Addr} {v:Value} (hc:w0.cell? a=some v):w.cell? a=some v:=by
 have hb:=World.block_lt_of_cell? _ _ hc
 rw [← hc]
 exact World.cell?_of_block (h.mod.block _ hb (by simp))
theorem Src.old (h:Own w0 w R) {A:Option Addr} {n k:Nat} {xs:List Value} (hs:Src w0 A n k xs):Src w A n k xs:=
 ⟨hs.len,fun h0=>by
  obtain⟨ad,e,hc⟩:=hs.at' h0
  exact⟨ad,e,fun j u hu=>cell_old h (hc j u hu)⟩⟩
theorem src_none {w:World} {A:Option Addr} {bs:List UInt8} (h:Src w A bs.length 1 (u8s bs)):A=none→bs.length=0:=fun e=>by
 subst e
 rcases Nat.eq_zero_or_pos bs.length with h0 | h0
 ·exact h0
 ·obtain⟨ad,e,_⟩:=h.at' h0
  cases e
end
def TrueP (w:World) (e:Ending) (w':World):Prop:=e=.returned (.bool true)∧Mod [] w w'
structure OpSt (M k:Nat) (kind ver:Nat) (size:Nat) (L:List (List UInt8)) (d:DiskD) (l:LogD):Prop where
 firm:Firm d l.m ((L.take k).map (fun b=>⟨kind,ver,b⟩)) 0
 loose:l.loose=false
 size:l.size=size
 ver:l.m.ver=ver
 rm:Rm d ((M - k) * 600+10000) ((M - k) * 2+20)
 segs:l.m.segs.length≤k+1
 next:l.m.next≤k+2
 ops:d.ops≤1000+20 * k
theorem OpSt.ok {M k kind ver size:Nat} {L:List (List UInt8)} {d:DiskD} {l:LogD} (h:OpSt M k kind ver size L d l) (hs:16≤size∧size≤1048576):LgOk l:=⟨by rw [h.size];exact hs.1,by rw [h.size];exact hs.2,h.firm.now.1⟩
theorem OpSt.step {M k kind ver size:Nat} {L:List (List UInt8)} {d:DiskD} {l:LogD} (h:OpSt M k kind ver size L d l) {x:List UInt8} (hx:L[k]?=some x) (hl:x.length≤300) (hk:k < M) (hM:M≤40) (hkind:kind < 256) (hver:ver < 256) :
  (appendL kind x (d,l)).2=0∧OpSt M (k+1) kind ver size L (appendL kind x (d,l)).1.1 (appendL kind x (d,l)).1.2:=by
 have hp:putErr kind l.m.ver x.length=0:=by
  unfold putErr
  rw [h.ver,if_neg (by omega),if_neg (by omega)]
 have hseg:=h.segs
 have hnext:=h.next
 obtain⟨a1,a2,a3,a4⟩:=append_rm (B:=(M - (k+1)) * 600+10000) (n:=(M - (k+1)) * 2+20) h.firm h.loose kind x (h.rm.le (by omega) (by omega)) (by omega) (by omega) hp
 obtain⟨b1,b2,b3⟩:=append_inv (Fr0:=[]) (s0:=0) (Or.inl ⟨h.loose,h.firm⟩) kind x
 have hops:=appendL_ops kind x (d,l)
 rcases b3 with ⟨_,b4,b5⟩|⟨b4,_⟩
 ·refine⟨a1,?_,b4,by rw [b1,h.size],by rw [b2,h.ver],a2,by omega,by omega,?_⟩
  ·have e:(L.take (k+1)).map (fun b=>(⟨kind,ver,b⟩:FrD))=(L.take k).map (fun b=>⟨kind,ver,b⟩)++[⟨(kind:Int).toNat,l.m.ver,x⟩]:=by
    rw [List.take_add_one,hx,h.ver]
    simp
   rw [e];exact b5
  ·have:=h.ops
   simp only at hops;omega
 ·exact absurd a1 b4
theorem OpSt.start {M ver:Nat} (L:List (List UInt8)) (kind:Nat) (size:Int) (hv:1≤ver∧ver≤3) (hM:M≤40) :
  ∃ d,createD ver size (dNew 200000)=(d,some ⟨sized size,firstM ver,false⟩,0)∧OpSt M 0 kind ver (sized size) L d ⟨sized size,firstM ver,false⟩:=by
 obtain⟨d',h1,h2,h3⟩:=create_rm (B:=M * 600+10000) (n:=M * 2+20) (dNew_ok 200000) ⟨rfl,by show 0+_≤200000;omega,by show 0+_≤200;omega,by show 200000≤_;omega⟩ rfl hv size
 refine⟨d',h1,h2,rfl,rfl,rfl,h3.le (by omega) (by omega),by simp [firstM],by simp [firstM],?_⟩
 have ho:(createD ver size (dNew 200000)).1.ops≤(dNew 200000).ops+8:=by
  unfold createD
  split
  ·simp only;omega
  ·split
   ·simp only;omega
   ·simp only
    have hb:=beginD_ops 1 (dNew 200000)
    have:(thenD (thenD (beginD 1 (dNew 200000)) (fun d=>dSync d (segName 1))) (fun d=>((commitD (firstM ((ver:Int).toNat)) d).1,(commitD (firstM ((ver:Int).toNat)) d).2.2))).1.ops≤(dNew 200000).ops+8:=by
     have h1:(thenD (beginD 1 (dNew 200000)) (fun d=>dSync d (segName 1))).1.ops≤(dNew 200000).ops+2+1:=thenD_le (μ:=fun t:DiskD=>t.ops) (a:=(dNew 200000).ops+2) (b:=1) hb (fun t=>dSync_ops t _)
     exact thenD_le (μ:=fun t:DiskD=>t.ops) (a:=(dNew 200000).ops+2+1) (b:=5) h1 (fun t=>commitD_ops _ t)
    split <;> exact this
 rw [h1] at ho
 have:(dNew 200000).ops=0:=rfl
 simp only at ho;omega
theorem sized_ok (n:Int):16≤sized n∧sized n≤1048576:=by unfold sized;omega
def empA:Asrt:=fun w F=>F=[]
section
variable {F0:List Nat} {w0 w:World} {R:List Asrt}
end
section
variable {H:Type} {enc:TypeId×Value→H} {w:World} {base:Nat} {spare:Nat→Bool} {held:Bool}
theorem openBssA {a:Option Addr} {len cap:Nat} {d:DataW H} {p:List MemPlace} (h:DataW.Trod enc Tryz.prog w base spare held 22 (.slice a len cap) d p):∃ L,ArgBss w a len cap L:=
 openBss Tryz.underlying22 Tryz.underlying32 Tryz.underlying5 (by kernel_rfl) (by kernel_rfl) h
end
theorem Other.read {K:ByteArray→Prop} {d d':DiskD} (h:Other K d d') {n:ByteArray} (hn:K n):dRead d' n=dRead d n:=by
 unfold dRead
 rw [h.names n hn]
 cases e:nmAt d.now n with
 | none=>rfl
 | some i=>simp only [Option.map_some];rw [h.files n i hn e]
theorem dSync_read {d:DiskD} (h:DiskOk d) (n x:ByteArray):dRead (dSync d n).1 x=dRead d x:=by
 rcases dSync_cases d n with ⟨e,h4,he⟩|⟨_,j,h4,h5⟩
 ·rw [h4];rfl
 ·rw [h5]
  show (nmAt d.now x).map (fun i=>((d.files.set j _).getD i default).b)=_
  unfold dRead
  cases e:nmAt d.now x with
  | none=>rfl
  | some i=>
   simp only [Option.map_some]
   rw [set_default (h.at h4)]
   split
   ·rename_i q;rw [q]
   ·rfl
theorem dSyncDir_read (d:DiskD) (x:ByteArray):dRead (dSyncDir d).1 x=dRead d x:=by
 rcases dSyncDir_cases d with h6 | ⟨_,h6⟩ <;> rw [h6] <;> rfl
theorem thenD_zero {σ:Type} {r:σ×Int} {f:σ→σ×Int} (h:(thenD r f).2=0):r.2=0∧thenD r f=f r.1:=by
 by_cases e:r.2=0
 ·exact⟨e,thenD_ok e⟩
 ·rw [thenD_err e] at h;exact absurd h e
theorem commit_read {d:DiskD} (hok:DiskOk d) (m:ManD) {n:ByteArray} (n1:n≠nmFresh) (n2:n≠nmHead):dRead (commitD m d).1 n=dRead d n∧DiskOk (commitD m d).1:=by
 have K:∃ K:ByteArray→Prop,K=fun x=>x≠nmFresh∧x≠nmHead:=⟨_,rfl⟩
 obtain⟨K,hK⟩:=K
 have k1:¬ K nmFresh:=by rw [hK];exact fun h=>h.1 rfl
 have k2:¬ K nmHead:=by rw [hK];exact fun h=>h.2 rfl
 have kn:K n:=by rw [hK];exact⟨n1,n2⟩
 have hf:Other K d (freshD m d).1∧DiskOk (freshD m d).1:=by
  have step:∀ (r:DiskD×Int) (f:DiskD→DiskD×Int),(Other K d r.1∧DiskOk r.1)→(∀ e,DiskOk e→Other K e (f e).1∧DiskOk (f e).1)→Other K d (thenD r f).1∧DiskOk (thenD r f).1:=by
   intro r f h1 h2
   by_cases e:r.2=0
   ·rw [thenD_ok e];exact⟨h1.1.trans (h2 _ h1.2).1,(h2 _ h1.2).2⟩
   ·rw [thenD_err e];exact h1
  unfold freshD
  refine step _ _ (step _ _ (step _ _ ⟨clear_other hok k1,clear_ok hok _⟩ ?_) ?_) ?_
  ·exact fun e he=>⟨Other.append he k1 _,dAppend_ok he _ _⟩
  ·exact fun e he=>⟨Other.sync he k1,dSync_ok he _⟩
  ·exact fun e he=>⟨Other.rename he k1 k2,dRename_ok he _ _⟩
 unfold commitD
 split
 ·exact⟨rfl,hok⟩
 ·split
  ·exact⟨hf.1.read kn,hf.2⟩
  ·exact⟨by rw [dSyncDir_read];exact hf.1.read kn,dSyncDir_ok hf.2⟩
def SzOk (size:Nat) (b:List UInt8):Prop:=∃ F:List FrD,b=frJoin F∧(∀ f∈F,FrOk f)∧(b.length≤size∨F.length=1)
def SzInv (d:DiskD) (l:LogD):Prop:=∀ s∈l.m.segs,∃ b,dRead d (segName s)=some b∧SzOk l.size b
theorem turn_read {d:DiskD} {l:LogD} (hok:DiskOk d) (hm:mayM l.m=true) (h0:(turnL (d,l)).2=0) :
  DiskOk (turnL (d,l)).1.1∧(turnL (d,l)).1.2.size=l.size∧(turnL (d,l)).1.2.m=turnM l∧(∀ s∈l.m.segs,dRead (turnL (d,l)).1.1 (segName s)=dRead d (segName s))∧dRead (turnL (d,l)).1.1 (segName l.m.next)=some []:=by
 have hv:∀ s∈l.m.segs,1≤s∧s < 1000000:=fun s hs=>⟨(mayM_seg hm hs).1,(mayM_seg hm hs).2.2⟩
 have hnot:l.m.next ∉ l.m.segs:=fun hh=>by have:=mayM_seg hm hh;omega
 have hne:∀ s∈l.m.segs,segName s≠segName l.m.next:=fun s hs e=>mine_not hv hnot (Or.inr ⟨s,hs,e.symm⟩)
 unfold turnL at h0 ⊢
 simp only at h0 ⊢
 by_cases h64:64≤l.m.segs.length
 ·rw [if_pos h64] at h0;simp at h0
 rw [if_neg h64] at h0 ⊢
 obtain⟨a3,e3⟩:=thenD_zero h0
 obtain⟨a2,e2⟩:=thenD_zero a3
 obtain⟨a1,e1⟩:=thenD_zero a2
 rw [e3,e2,e1]
 rw [e3,e2,e1] at h0
 rw [e2,e1] at a3
 rw [e1] at a2
 clear e1 e2 e3
 simp only [onDisk] at *
 have r1:∀ x,dRead (dSync d (lastS l)).1 x=dRead d x:=dSync_read hok (lastS l)
 have k1:=dSync_ok hok (lastS l)
 generalize dSync d (lastS l)=q1 at *
 unfold beginD at *
 obtain⟨b1,e4⟩:=thenD_zero a2
 rw [e4]
 rw [e4] at h0
 rw [e4] at a3
 rw [e4] at a2
 clear e4
 have nk:¬ (fun n=>n≠segName l.m.next) (segName l.m.next):=fun h=>h rfl
 have o1:=clear_other (K:=fun n=>n≠segName l.m.next) k1 nk
 have c1:=clear_ok k1 (segName l.m.next)
 have n1:=clear_none (n:=segName l.m.next) k1 b1
 generalize clearD (segName l.m.next) q1.1=q2 at *
 have o2:=o1.trans (Other.append (K:=fun n=>n≠segName l.m.next) c1 nk [])
 have c2:=dAppend_ok c1 (segName l.m.next) []
 have n2:=(append_new c1 (b:=[]) n1 a2).read
 generalize dAppend q2.1 (segName l.m.next) []=q3 at *
 have r3:∀ x,dRead (dSync q3.1 (segName l.m.next)).1 x=dRead q3.1 x:=dSync_read c2 _
 have c3:=dSync_ok c2 (segName l.m.next)
 generalize dSync q3.1 (segName l.m.next)=q4 at *
 unfold adoptL at *
 simp only at *
 have hcm:(commitD (turnM l) q4.1).2.1=true:=by
  unfold commitD at h0 ⊢
  split
  ·rename_i q;rw [if_pos q] at h0;simp at h0
  ·rename_i q
   rw [if_neg q] at h0
   split
   ·rename_i q5;rw [if_pos q5] at h0;exact absurd h0 q5
   ·rfl
 rw [if_pos hcm]
 have rd:=fun (x:ByteArray) (x1:x≠nmFresh) (x2:x≠nmHead)=>(commit_read c3 (turnM l) x1 x2).1
 refine⟨(commit_read c3 (turnM l) (segName_fresh 1) (segName_head 1)).2,rfl,rfl,fun s hs=>?_,?_⟩
 ·rw [rd _ (segName_fresh s) (segName_head s),r3,o2.read (hne s hs),r1]
 ·rw [rd _ (segName_fresh _) (segName_head _),r3,n2]
theorem append_read {d:DiskD} (hok:DiskOk d) {n:ByteArray} {b:List UInt8} {c:List UInt8} (h:dRead d n=some c) (h0:(dAppend d n b).2=0):dRead (dAppend d n b).1 n=some (c++b):=by
 have hn:∃ i,nmAt d.now n=some i∧(d.files.getD i default).b=c:=by
  unfold dRead at h
  cases e:nmAt d.now n with
  | none=>rw [e] at h;cases h
  | some i=>rw [e] at h;exact⟨i,rfl,by simpa using h⟩
 obtain⟨i,h1,h2⟩:=hn
 rcases dAppend_cases d n b with ⟨e,h3,he⟩|⟨_,_,_,⟨j,h4,h5⟩|⟨h4,_⟩⟩
 ·rw [h3] at h0;simp only at h0;omega
 ·obtain rfl:i=j:=by rw [h1] at h4;exact Option.some.inj h4
  rw [h5]
  show (nmAt d.now n).map (fun i=>((d.files.set _ _).getD i default).b)=_
  rw [h1,Option.map_some,set_default (hok.at h1),if_pos rfl]
  simp only [h2]
  exact congrArg some (congrArg (·++b) h2)
 ·rw [h1] at h4;cases h4
theorem SzInv.put {d:DiskD} {l:LogD} (hok:DiskOk d) (hm:mayM l.m=true) (h:SzInv d l) {f:FrD} (hf:FrOk f) (hfit:fitsL l (bytesD d (lastS l)) (frBytes f).length=true) (h0:(dAppend d (lastS l) (frBytes f)).2=0):SzInv (dAppend d (lastS l) (frBytes f)).1 l:=by
 have hv:∀ s∈l.m.segs,1≤s∧s < 1000000:=fun s hs=>⟨(mayM_seg hm hs).1,(mayM_seg hm hs).2.2⟩
 have hlen:1≤l.m.segs.length:=by
  unfold mayM at hm
  simp only [Bool.and_eq_true,decide_eq_true_eq] at hm
  exact hm.1.2.2.1
 intro s hs
 by_cases e:segName s=lastS l
 ·obtain⟨b,h1,F,rfl,hF,hsz⟩:=h s hs
  rw [e] at h1 ⊢
  refine⟨_,append_read hok h1 h0,F++[f],by rw [frJoin_append];simp [frJoin],fun g hg=>?_,?_⟩
  ·rcases List.mem_append.1 hg with hg | hg
   ·exact hF g hg
   ·simp at hg;subst hg;exact hf
  ·have hb:bytesD d (lastS l)=(frJoin F).length:=by unfold bytesD;rw [h1];rfl
   rw [hb] at hfit
   unfold fitsL at hfit
   rcases of_decide_eq_true hfit with q | q
   ·right
    cases F with
    | nil=>rfl
    | cons g G=>
     exfalso
     have:(frJoin (g::G)).length=(frBytes g).length+(frJoin G).length:=by simp [frJoin]
     have:=frBytes_length g
     omega
   ·left;rw [List.length_append];exact q
 ·obtain⟨b,h1,h2⟩:=h s hs
  refine⟨b,?_,h2⟩
  rw [(Other.append (K:=fun n=>n≠lastS l) hok (fun q=>q rfl) (frBytes f)).read e]
  exact h1
theorem SzInv.step {d:DiskD} {l:LogD} {Fr:List FrD} (h:Firm d l.m Fr 0) (hl:l.loose=false) (hz:SzInv d l) {kind:Int} {body:List UInt8} (h0:(appendL kind body (d,l)).2=0):SzInv (appendL kind body (d,l)).1.1 (appendL kind body (d,l)).1.2:=by
 have hm:=h.now.1
 unfold appendL at h0 ⊢
 simp only at h0 ⊢
 by_cases hp:putErr kind l.m.ver body.length=0
 case neg=>rw [if_pos hp] at h0;exact absurd h0 hp
 rw [if_neg (by simp [hp])] at h0 ⊢
 have hfo:=put_ok hp
 have hset:settleL (d,l)=((d,l),0):=by unfold settleL;rw [if_neg (by simp [hl])]
 rw [hset] at h0 ⊢
 obtain⟨a1,e1⟩:=thenD_zero h0
 obtain⟨a2,e2⟩:=thenD_zero a1
 rw [e1,e2]
 rw [e2] at a1
 rw [e1,e2] at h0
 clear e1 e2 a2 hset
 simp only at *
 by_cases q:fitsL l (bytesD d (lastS l)) (frBytes ⟨kind.toNat,l.m.ver,body⟩).length=true
 ·rw [if_pos q] at h0 ⊢
  simp only [onDisk] at h0 ⊢
  exact hz.put h.ok hm hfo q h0
 ·rw [if_neg q] at h0 a1 ⊢
  obtain⟨t1,t2,t3,t4,t5⟩:=turn_read h.ok hm a1
  obtain⟨u1,u2,u3⟩:=turn_inv (l:=l) h hl
  have hmm:mayM (turnL (d,l)).1.2.m=true:=by
   rcases u3 with ⟨_,_,u4⟩|⟨u4,_⟩
   ·exact u4.now.1
   ·exact absurd a1 u4
  generalize turnL (d,l)=r at *
  obtain⟨⟨d2,l2⟩,e⟩:=r
  simp only [onDisk] at *
  have hlast:lastS l2=segName l.m.next:=by unfold lastS;rw [t3];simp [turnM]
  refine SzInv.put t1 hmm ?_ hfo ?_ h0
  ·intro s hs
   rw [t3] at hs
   simp only [turnM,List.mem_append,List.mem_singleton] at hs
   rw [t2]
   rcases hs with hs | rfl
   ·rw [t4 s hs];exact hz s hs
   ·exact⟨[],t5,[],rfl,by simp,Or.inl (Nat.zero_le _)⟩
  ·have hb:bytesD d2 (lastS l2)=0:=by unfold bytesD;rw [hlast,t5];rfl
   rw [hb];unfold fitsL;simp
theorem meas_lt {n j:Nat} (h:(j:Int) < (n:Int)):n - (intOf (.int .i64 ((j:Int)+1))).toNat < n - (intOf (.int .i64 (j:Int))).toNat:=by
 simp only [intOf];omega
structure FrI where
 kind:Int
 ver:Int
 body:List UInt8
def FrIAt (w:World) (g o:Nat) (f:FrI):Prop:=w.cell? ⟨g,o,none⟩=some (.int .i64 f.kind)∧w.cell? ⟨g,o+1,none⟩=some (.int .i64 f.ver)∧∃ v,w.cell? ⟨g,o+2,none⟩=some v∧AB w v f.body
structure ArgStr {α:Type} (k:Nat) (Rd:World→Nat→Nat→α→Prop) (w:World) (v:Value) (L:List α):Prop where
 ex:∃ a c,v=.slice a L.length c∧L.length≤c∧c≤maxLen∧∀ i x,L[i]?=some x→∃ g o,a=some ⟨g,o,none⟩∧Rd w g (o+i * k) x
abbrev ArgFrs:=ArgStr 3 FrIAt
structure CallI where
 act:Int
 n:Int
 b:List UInt8
 rows:List FrI
def CallIAt (w:World) (g o:Nat) (c:CallI):Prop:=w.cell? ⟨g,o,none⟩=some (.int .i64 c.act)∧w.cell? ⟨g,o+1,none⟩=some (.int .i64 c.n)∧(∃ v,w.cell? ⟨g,o+2,none⟩=some v∧AB w v c.b)∧∃ v,w.cell? ⟨g,o+3,none⟩=some v∧ArgFrs w v c.rows
abbrev ArgCalls6:=ArgStr 4 CallIAt
section
variable {H:Type} {enc:TypeId×Value→H} {w:World} {base:Nat} {spare:Nat→Bool} {held:Bool}
end
section
variable {w0 w:World} {R:List Asrt}
end
theorem RowA.noc {T:TypeId} {k n n' c:Nat} {a:Option Addr} {xs:List Value} {w:World} {F:List Nat} (h:RowA T k (.slice a n c) n' xs w F) (ha:a=none):c=0:=by
 obtain⟨h0,h1,h2⟩:=h
 rcases h2 with ⟨e,_⟩|⟨g,cap,cur,e,_⟩
 ·cases e;rfl
 ·cases e;cases ha
def RowV (F0:List Nat) (w0:World) (R:List Asrt) (A:Option Addr) (n k:Nat) (xs:List Value):Prop:=∀ w',In F0 w0 w' R→Src w' A n k xs
section
variable {F0:List Nat} {w0 w:World} {R:List Asrt}
def EqRel {α:Type} (l1 l2:List α) (F0:List Nat) (w0:World) (R:List Asrt) (i:Value) (wr:World):Prop:=∃ k:Nat,k≤l1.length∧i=.int .i64 k∧l1.take k=l2.take k∧In F0 w0 wr R
end
section
variable {F0:List Nat} {w0 w:World} {R:List Asrt}
abbrev IntsR (v:Value) (l:List Nat):Asrt:=RowA 3 1 v l.length (segV l)
theorem segV_ones (l:List Nat):∀ u∈segV l,u.oneCell'=true:=by
 intro u hu
 simp only [segV,List.mem_map] at hu
 obtain⟨s,_,rfl⟩:=hu;rfl
theorem icl_some (h:In F0 w0 w R) {ad:Addr} {l:List Nat} {c:Nat} (hs:Src w (some ad) l.length 1 (segV l)) (hn:l.length≤1000000) :
  Calls Tryz.prog 50 #[.slice (some ad) l.length c] w fun e w'=>∃ a c',e=.returned (.slice a l.length c')∧In F0 w0 w' (IntsR (.slice a l.length c') l::R):=by
 have HH:=Lib.hid h
 have HS:=Lib.hid hs
 clear h hs
 have hq:∀ (w:World) (a:Option Addr) (n c n' c':Nat),(binOp .eql 36 (.slice a n c) (.slice none n' c')).run Tryz.prog w=.ok (.bool a.isNone) w:=fun w a n c n' c'=>Lib.run_eql_slice_nil w _ _ a n c n' c' Tryz.underlying36
 go_enter Tryz.func50,Tryz.ntmps50
 go_wp2_with (at_builtin;refine app_list rfl ((HH.out.cells #[] 3).row0 (k:=1) 0 rfl) 0 rfl (.tmp 5) (.tmp 6) 36 (by rfl) Tryz.underlying36 infoInt (by decide) (by decide) (by rfl) (by rfl) (src_alloc HS.out _) (segV_ones _) (by omega) ?_)
 intro v' w3 ho hg
 have ho':In F0 w0 w3 (IntsR v' l::R):=by simpa using ho
 obtain⟨Fv,rv⟩:=ho'.get 0 rfl
 obtain⟨a,c',rfl,-,-,-⟩:=RowA.shape rv
 have HO:=Lib.hid ho'
 clear ho hg ho' rv
 go_wp2_with fail
 go_ret
 exact⟨_,_,rfl,HO.out⟩
theorem icl_none (h:In F0 w0 w R):Calls Tryz.prog 50 #[.slice none 0 0] w fun e w'=>∃ a c',e=.returned (.slice a 0 c')∧In F0 w0 w' (IntsR (.slice a 0 c') []::R):=by
 have HH:=Lib.hid (h.rownil 3 1)
 clear h
 have hq:∀ (w:World) (a:Option Addr) (n c n' c':Nat),(binOp .eql 36 (.slice a n c) (.slice none n' c')).run Tryz.prog w=.ok (.bool a.isNone) w:=fun w a n c n' c'=>Lib.run_eql_slice_nil w _ _ a n c n' c' Tryz.underlying36
 go_enter Tryz.func50,Tryz.ntmps50
 go_wp2_with fail
 go_ret
 exact⟨_,_,rfl,HH.out⟩
theorem o_iclone (h:In F0 w0 w R) {A:Option Addr} {c:Nat} {l:List Nat} (hn:A=none→c=0) (hs:Src w A l.length 1 (segV l)) (hl:l.length≤1000000) :
  Calls Tryz.prog 50 #[.slice A l.length c] w fun e w'=>∃ a c',e=.returned (.slice a l.length c')∧In F0 w0 w' (IntsR (.slice a l.length c') l::R):=by
 cases A with
 | none=>
  obtain rfl:=hn rfl
  have:l=[]:=by
   cases l with
   | nil=>rfl
   | cons b l=>obtain⟨ad,e,_⟩:=hs.at' (by simp);cases e
  subst this
  exact icl_none h
 | some ad=>exact icl_some h hs hl
def IdxIRel (l:List Nat) (x:Nat) (w:World) (i:Value) (wr:World):Prop:=∃ k:Nat,k≤l.length∧i=.int .i64 k∧(∀ y∈l.take k,y≠x)∧wr=w
end
/-! ### Names of segments,read -/
def isDig (x:UInt8):Bool:=decide (48≤x.toNat∧x.toNat≤57)
def digN (l:List UInt8):Nat:=l.foldl (fun n x=>n * 10+(x.toNat - 48)) 0
def numD (n:ByteArray):Option Nat:=
 match n.data.toList with
 | h::t=>if h=115∧t.length=6∧t.all isDig=true∧0 < digN t then some (digN t) else none
 | []=>none
/-! ### What is no part of the log goes -/
def dirtyD (l:LogD) (n:ByteArray):Bool:=decide (n=nmFresh) || (match numD n with | some k=>!l.m.segs.contains k | none=>false)
def cleanD (l:LogD):List ByteArray→DiskD→DiskD
 | [],d=>d
 | n::r,d=>cleanD l r (if dirtyD l n=true then (dRemove d n).1 else d)
end Go.Proofs.YtaopfagclnocdaaGreatDoor
