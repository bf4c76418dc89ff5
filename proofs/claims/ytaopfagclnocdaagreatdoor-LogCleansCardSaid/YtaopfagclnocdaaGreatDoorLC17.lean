/- Rows.LogCleansCardSaid -/
import Derived.Test.YtaopfagclnocdaaGreatDoorLC15
import Derived.Test.YtaopfagclnocdaaGreatDoorLC16
import Derived.Test.YtaopfagclnocdaaGreatDoorLC13
import Derived.Test.YtaopfagclnocdaaGreatDoorLC14
import Derived.Deep.RegionHeld3
import Derived.LoopTactic
import Derived.StillTailTactics
import Derived.Test.YtaopfagclnocdaaGreatDoorLC1
import Derived.ProofKit
import Derived.SliceStrings
import Derived.Deep.Slices
import Derived.Deep.Fields
import Derived.Test.YtaopfagclnocdaaGreatDoorLC3
import Derived.Lib.SmallJoins
import Derived.Test.YtaopfagclnocdaaGreatDoorLC9
import Derived.Test.YtaopfagclnocdaaGreatDoorLC7
import Derived.BigQuiet
import Derived.Deep.QuietTactic
namespace Go.Proofs.YtaopfagclnocdaaGreatDoor
open Go.RowKit
open Go.RowKit Go.ChangeShapes Go.WideShapes Go.Deep
set_option linter.unusedVariables false
set_option maxHeartbeats 64000000
set_option maxRecDepth 100000
def Frz (b:Nat) (C:Array Value) (T:TypeId) (fz:Nat×Nat):Asrt:=fun w F=>F=[b]∧w.heap[b]?=some (.cells C T fz)
theorem Frz.framed (b:Nat) (C:Array Value) (T:TypeId) (fz:Nat×Nat):Framed (Frz b C T fz):=
 ⟨fun h hk=>⟨h.1,by rw [hk b (by rw [h.1];simp)];exact h.2⟩,fun h b' hb=>by rw [h.1] at hb;simp at hb;subst hb;exact hp_lt h.2⟩
theorem In.frz {F0:List Nat} {w0 w:World} {R:List Asrt} (h:In F0 w0 w R) (C:Array Value) (T:TypeId) (fz:Nat×Nat):In F0 w0 (w.alloc (.cells C T fz)) (Frz w.heap.size C T fz::R):=by
 obtain⟨F,hs,hF⟩:=h.star
 have fr:=Framed.star h.framed
 refine⟨fun B hB=>?_,⟨[w.heap.size]++F,⟨[w.heap.size],F,⟨rfl,hp_alloc_new⟩,fr.keep hs (fun b hb=>hp_alloc_old (fr.lt hs b hb)),?_,rfl⟩,?_⟩,h.mod.alloc _⟩
 ·rcases List.mem_cons.1 hB with rfl | hB
  ·exact Frz.framed _ _ _ _
  ·exact h.framed B hB
 ·intro b hb hbF
  simp at hb;subst hb
  exact absurd (fr.lt hs _ hbF) (by omega)
 ·intro b hb
  simp at hb
  rcases hb with rfl | hb
  ·exact Or.inr h.mod.size
  ·exact hF b hb
theorem In.fblock {F0:List Nat} {w0 w:World} {R:List Asrt} (h:In F0 w0 w R) (i:Nat) {b:Nat} {C:Array Value} {T:TypeId} {fz:Nat×Nat} (hA:R[i]?=some (Frz b C T fz)):w.heap[b]?=some (.cells C T fz):=by
 obtain⟨F,hF⟩:=h.get i hA
 exact hF.2
def aw1:DiskD×Option LogD×Int:=createD 3 100 (dNew 5000)
def awL:LogD:=aw1.2.1.getD default
def aw2:DL×Int:=appendL 1 [120] (aw1.1,awL)
def aw3:DL×Int:=syncL aw2.1
def aw4:DL×Int:=appendL 1 [121] aw3.1
def aw5:DiskD:=dCrash aw4.1.1 [0,0,5]
def aw6:Nat×DiskD×Option LogD×Int:=openL countF 100 aw5 0
def lgOkB (l:LogD):Bool:=decide (16≤l.size∧l.size≤1048576) && mayM l.m
theorem lgOk_of {l:LogD} (h:lgOkB l=true):LgOk l:=by
 simp only [lgOkB,Bool.and_eq_true,decide_eq_true_eq] at h
 exact⟨h.1.1,h.1.2,h.2⟩
theorem aw_facts:aw1.2.1.isSome=true∧aw1.2.2=0∧aw2.2=0∧aw3.2=0∧aw4.2=0∧aw6.2.2.2=0∧aw6.1=1∧lgOkB awL=true∧lgOkB aw2.1.2=true∧lgOkB aw3.1.2=true∧aw1.1.ops≤1000∧aw2.1.1.ops≤1000∧aw3.1.1.ops≤1000∧aw4.1.1.ops≤1000∧aw5.ops≤1000:=by decide +kernel
section
variable {F0:List Nat} {w0 w:World} {R:List Asrt}
theorem aw_some:aw1.2.1=some awL:=by
 have h:=aw_facts.1
 unfold awL
 cases e:aw1.2.1 with
 | none=>rw [e] at h;cases h
 | some l=>rfl
theorem CreatePost.some {bd:Nat} {r:DiskD×Option LogD×Int} {l:LogD} {e:Ending} {w':World} (h:CreatePost bd r F0 w0 R e w') (hl:r.2.1=some l):∃ lb,e=.returned (.tuple #[dptr lb,.int .i64 r.2.2])∧In F0 w0 w' (LgA lb bd l::DkA bd r.1::R):=by
 unfold CreatePost at h;rw [hl] at h;exact h
theorem cells_src {g:Nat} {C:Array Value} {T:TypeId} {fz:Nat×Nat} {bs:List UInt8} (i:Nat) {w':World} (h:In F0 w0 w' R) (hA:R[i]?=some (Frz g C T fz)) (hC:C.toList=u8s bs):Src w' (some ⟨g,0,none⟩) bs.length 1 (u8s bs):=
 ⟨by simp [u8s_length],fun h0=>⟨_,rfl,fun k u hu=>by
  rw [add_at]
  refine cell_of (h.fblock i hA) ?_
  rw [Nat.zero_add,← hu,← hC,Array.getElem?_toList]⟩⟩
theorem OpenPost.weak {σ:Type} {Acc:σ→Asrt} {bd:Nat} {r:σ×DiskD×Option LogD×Int} {e:Ending} {w':World} (h:OpenPost Acc bd r F0 w0 R e w'):∃ p,e=.returned (.tuple #[p,.int .i64 r.2.2.2])∧In F0 w0 w' (Acc r.1::DkA bd r.2.1::R):=by
 unfold OpenPost at h
 split at h
 ·exact⟨_,h.1,h.2⟩
 ·obtain⟨lb,h1,h2⟩:=h
  exact⟨_,h1,h2.drop⟩
theorem o_awake6 (h:In F0 w0 w R):Calls Tryz.prog 6 #[] w fun e w'=>e=.returned (.bool true)∧In F0 w0 w' R:=by
 obtain⟨f1,f2,f3,f4,f5,f6,f7,l1,l2,l3,o1,o2,o3,o4,o5⟩:=aw_facts
 have K0:=Lib.hid (o_dnew h 5000 (by omega) (by omega))
 have K1:=Lib.hid (fun bd w' (h':In F0 w0 w' (DkA bd (dNew 5000)::R))=>o_create h' (by decide) 3 100)
 have K2:=Lib.hid (fun bd lb g w' (h':In F0 w0 w' (LgA lb bd awL::DkA bd aw1.1::Frz g #[.int .u8 120] 5 (1,2)::R))=>o_append h' (lgOk_of l1) (by omega) 1 (body:=[120]) (A:=some ⟨g,0,none⟩) (c:=1) (by decide) (fun w2 h2=>cells_src 0 h2 rfl rfl))
 have K3:=Lib.hid (fun bd lb w' (h':In F0 w0 w' (LgA lb bd aw2.1.2::DkA bd aw2.1.1::R))=>o_lsync h' (lgOk_of l2) (by omega))
 have K4:=Lib.hid (fun bd lb g w' (h':In F0 w0 w' (LgA lb bd aw3.1.2::DkA bd aw3.1.1::Frz g #[.int .u8 121] 5 (1,2)::R))=>o_append h' (lgOk_of l3) (by omega) 1 (body:=[121]) (A:=some ⟨g,0,none⟩) (c:=1) (by decide) (fun w2 h2=>cells_src 0 h2 rfl rfl))
 have K5:=Lib.hid (fun bd g w' (h':In F0 w0 w' (DkA bd aw4.1.1::Cells g #[.int .u8 0,.int .u8 0,.int .u8 5] 5::R))=>o_dcrash_cells h' (by omega) (p:=[0,0,5]) 0 rfl rfl (by decide))
 have K6:=Lib.hid (fun bd vb w' (h':In F0 w0 w' (CountA vb 0::DkA bd aw5::R))=>o_open (count_each vb) 0 (by omega) h' (by omega) 100)
 simp only [List.length_cons,List.length_nil,Nat.zero_add,Nat.reduceAdd] at K2 K4 K5
 have HH:=Lib.hid h
 have E1:=Lib.hid f2
 have E2:=Lib.hid f3
 have E3:=Lib.hid f4
 have E4:=Lib.hid f5
 have E6:=Lib.hid f6
 have E7:=Lib.hid f7
 clear h f1 f2 f3 f4 f5 f6 f7 l1 l2 l3 o1 o2 o3 o4 o5
 go_enter Tryz.func6,Tryz.ntmps6
 go_wp2_with fail
 refine K0.out.mono ?_
 rintro e w1 ⟨bd,rfl,g1⟩
 have C1:=Lib.hid (K1.out bd w1 g1)
 clear g1 K0 K1
 go_wp2_with fail
 refine C1.out.mono ?_
 intro e w2 hp
 obtain⟨lb,rfl,g2⟩:=hp.some aw_some
 rw [show createD 3 100 (dNew 5000)=aw1 from rfl,E1.out]
 have g3:=g2.frz #[.int .u8 120] 5 (1,2)
 have kc:=Lib.run_convert_bytes_const (P:=Tryz.prog) w2 32 5 #[.int .u8 120] 1 1 Tryz.underlying32 Tryz.underlying5
 have C2:=Lib.hid (K2.out bd lb _ _ (g3.sel2 (R1:=[_,_,_]) [1,2,0] (by decide) rfl))
 clear g2 g3 hp C1 K2
 go_wp2_with fail
 refine C2.out.mono ?_
 rintro e w3 ⟨rfl,g4⟩
 rw [show (appendL 1 [120] (aw1.1,awL))=aw2 from rfl,E2.out]
 have C3:=Lib.hid (K3.out bd lb w3 (g4.sel2 (R1:=[_,_,_]) [0,1] (by decide) rfl))
 clear g4 C2 K3 kc
 go_wp2_with fail
 refine C3.out.mono ?_
 rintro e w4 ⟨rfl,g5⟩
 rw [show syncL (aw2.1.1,aw2.1.2)=aw3 from rfl,E3.out]
 have g6:=g5.frz #[.int .u8 121] 5 (1,2)
 have kc:=Lib.run_convert_bytes_const (P:=Tryz.prog) w4 32 5 #[.int .u8 121] 1 1 Tryz.underlying32 Tryz.underlying5
 have C4:=Lib.hid (K4.out bd lb _ _ (g6.sel2 (R1:=[_,_,_]) [1,2,0] (by decide) rfl))
 clear g5 g6 C3 K4
 go_wp2_with fail
 refine C4.out.mono ?_
 rintro e w5 ⟨rfl,g7⟩
 rw [show (appendL 1 [121] (aw3.1.1,aw3.1.2))=aw4 from rfl,E4.out]
 have g8:=(g7.sel2 (R1:=[_,_,_]) [1] (by decide) rfl).cells #[.int .u8 0,.int .u8 0,.int .u8 5] 5
 have C5:=Lib.hid (K5.out bd _ _ (g8.sel2 (R1:=[_,_]) [1,0] (by decide) rfl))
 clear g7 g8 C4 K5 kc
 go_wp2_with fail
 refine C5.out.mono ?_
 rintro e w6 ⟨rfl,g9⟩
 have g10:=(g9.sel2 (R1:=[_,_]) [0] (by decide) rfl).cells #[.int .i64 0] 3
 have C6:=Lib.hid (K6.out bd _ _ g10)
 clear g9 g10 C5 K6
 go_wp2_with fail
 refine C6.out.mono ?_
 intro e w7 hp
 obtain⟨p,rfl,g11⟩:=hp.weak
 rw [show openL countF 100 aw5 0=aw6 from rfl] at g11 ⊢
 rw [E6.out]
 rw [E7.out] at g11
 have c0:w7.cell? ⟨w6.heap.size,0,none⟩=some (.int .i64 1):=cell_of (g11.block 0 rfl) rfl
 have G:=Lib.hid g11.drop.drop
 clear g11 hp C6
 go_wp2_with fail
 go_ret
 exact⟨rfl,G.out⟩
end
section
variable {F0:List Nat} {w0 w:World} {R:List Asrt}
end
structure FrCell (w:World) (g o:Nat) (f:FrD) (A:Option Addr) (c:Nat):Prop where
 kind:w.cell? ⟨g,o,none⟩=some (.int .i64 f.kind)
 ver:w.cell? ⟨g,o+1,none⟩=some (.int .i64 f.ver)
 val:w.cell? ⟨g,o+2,none⟩=some (.slice A f.body.length c)
 body:Src w A f.body.length 1 (u8s f.body)
 nil:A=none→f.body.length=0
def FrAt (w:World) (a:Option Addr) (fs:List FrD):Prop:=∀ k f,fs[k]?=some f→∃ g o A c,a=some ⟨g,o,none⟩∧FrCell w g (o+k * 3) f A c
section
variable {F0:List Nat} {w0 w:World} {R:List Asrt}
def SameRel (fs gs:List FrD) (F0:List Nat) (w0:World) (R:List Asrt) (i:Value) (wr:World):Prop:=
 ∃ k:Nat,k≤fs.length∧i=.int .i64 k∧fs.take k=gs.take k∧In F0 w0 wr R
end
theorem exists_list {α:Type} {p:Nat→α→Prop}:∀ (n:Nat),(∀ i,i < n→∃ x,p i x)→∃ l:List α,l.length=n∧∀ i (hi:i < l.length),p i l[i]
 | 0,_=>⟨[],rfl,fun i hi=>by simp at hi⟩
 | n+1,h=>by
  obtain⟨l,hl,hp⟩:=exists_list n (fun i hi=>h i (by omega))
  obtain⟨x,hx⟩:=h n (by omega)
  refine⟨l++[x],by simp [hl],fun i hi=>?_⟩
  by_cases hin:i < l.length
  ·rw [List.getElem_append_left hin];exact hp i hin
  ·have:i=l.length:=by simp at hi;omega
   subst this
   simpa [hl] using hx
structure ArgStrs (w:World) (a:Option Addr) (len cap:Nat) (ss:List ByteArray):Prop where
 length:ss.length=len
 room:len≤cap
 most:cap≤maxLen
 small:∀ s∈ss,s.size≤maxLen
 at':len=0∨∃ b o,a=some ⟨b,o,none⟩∧b < w.heap.size∧∀ i (hi:i < ss.length),w.cell? ⟨b,o+i,none⟩=some (.string ss[i])
structure ArgInts (k:IntKind) (w:World) (a:Option Addr) (len cap:Nat) (zs:List Int):Prop where
 length:zs.length=len
 room:len≤cap
 most:cap≤maxLen
 small:∀ n∈zs,(Lit.int k n).wf=true
 at':len=0∨∃ b o,a=some ⟨b,o,none⟩∧b < w.heap.size∧∀ i (hi:i < zs.length),w.cell? ⟨b,o+i,none⟩=some (.int k zs[i])
section
variable {H:Type} {enc:TypeId×Value→H} {P:Program} {w:World} {base:Nat} {spare:Nat→Bool} {held:Bool}
theorem addr_none {a:Addr} {v:Value} (h:w.cell? (a.add 0)=some v):a=⟨a.block,a.off,none⟩:=by
 have:a.add 0=a:=by simp [Addr.add]
 rw [this] at h
 have:=World.cell?_spot h
 cases a;simp at this;simp [this]
theorem add_plain (b o i:Nat):(⟨b,o,none⟩:Addr).add i=⟨b,o+i,none⟩:=by
 unfold Addr.add;split
 ·simp
 ·rfl
theorem openStrings {T E:TypeId} (ht:P.underlying T=some (.slice E)) (he:P.underlying E=some .string) (hc:P.cellsOf E=1) {a:Option Addr} {len cap:Nat} {d:DataW H} {p:List MemPlace}
  (h:DataW.Trod enc P w base spare held T (.slice a len cap) d p):∃ ss,ArgStrs w a len cap ss:=by
 obtain⟨fuel,hf⟩:=h
 rcases open_strings ht he hc hf with ⟨hcs,_⟩|⟨x,l,c,ss,hcs,_,hl,hm,hz,_,hcell,hws⟩
 ·simp [Value.cells] at hcs
  obtain⟨rfl,rfl,rfl⟩:=hcs
  exact⟨[],rfl,Nat.le_refl _,Nat.zero_le _,by simp,Or.inl rfl⟩
 ·simp [Value.cells] at hcs
  obtain⟨rfl,rfl,rfl⟩:=hcs
  have hle:len≤ss.length:=by rw [hz];split <;> omega
  refine⟨ss.take len,by simp;omega,hl,hm,fun s hs=>hws s (List.mem_of_mem_take hs),?_⟩
  by_cases h0:len=0
  ·exact Or.inl h0
  ·have h1:=hcell 0 (by omega)
   have e:=addr_none h1
   rw [e] at hcell ⊢
   refine Or.inr ⟨_,_,rfl,?_,fun i hi=>?_⟩
   ·have:=World.block_lt_of_cell? _ _ h1;simpa [Addr.add] using this
   ·have hi':i < ss.length:=by simp at hi;omega
    have:=hcell i hi'
    rw [add_plain] at this
    rw [this];simp [hi']
end
structure AB (w:World) (v:Value) (bs:List UInt8):Prop where
 ex:∃ a c,v=.slice a bs.length c∧Src w a bs.length 1 (u8s bs)∧bs.length≤c∧c≤maxLen
structure ArgCellsOf {α:Type} (Rd:World→Value→α→Prop) (w:World) (a:Option Addr) (len cap:Nat) (L:List α):Prop where
 length:L.length=len
 room:len≤cap
 most:cap≤maxLen
 at':∀ i x,L[i]?=some x→∃ g o v,a=some ⟨g,o,none⟩∧w.cell? ⟨g,o+i,none⟩=some v∧Rd w v x
abbrev ArgBss:=ArgCellsOf AB
section
variable {H:Type} {enc:TypeId×Value→H} {P:Program} {w:World} {base:Nat} {spare:Nat→Bool} {held:Bool}
theorem openAB {T E:TypeId} (ht:P.underlying T=some (.slice E)) (he:P.underlying E=some (.int .u8)) (hc:P.cellsOf E=1) {fuel:Nat} {cs:List Value} {y:DataW H×List MemPlace}
  (h:DataW.trod enc P w base spare held fuel T cs=some y):∃ v bs,cs=[v]∧AB w v bs:=by
 rcases open_ints ht he hc h with ⟨hcs,_⟩|⟨x,l,c,zs,hcs,_,hl,hm,hz,_,hcell,hws⟩
 ·exact⟨_,[],hcs,none,0,rfl,Src.nil _ _ _,Nat.le_refl _,Nat.zero_le _⟩
 ·have hle:l≤zs.length:=by rw [hz];split <;> omega
  refine⟨_,(zs.take l).map (fun z=>UInt8.ofNat z.toNat),hcs,some x,c,by simp;omega,⟨by simp [u8s],fun h0=>?_⟩,by simp;omega,hm⟩
  refine⟨x,rfl,fun j u hu=>?_⟩
  have hlen:((zs.take l).map (fun z=>UInt8.ofNat z.toNat)).length=l:=by simp;omega
  have hj:j < l:=by
   have:=(List.getElem?_eq_some_iff.1 hu).1
   rw [u8s_length,hlen] at this;exact this
  have h1:=hcell j (by omega)
  rw [h1]
  have hw:(Lit.int .u8 zs[j]).wf=true:=hws _ (List.getElem_mem (by omega))
  have hb:0≤zs[j]∧zs[j] < 256:=by
   have hmin:IntKind.u8.min=0:=rfl
   have hmax:IntKind.u8.max=255:=rfl
   simp only [Lit.wf,Bool.and_eq_true,decide_eq_true_eq] at hw
   rw [hmin,hmax] at hw
   omega
  have hgl:(u8s ((zs.take l).map (fun z=>UInt8.ofNat z.toNat)))[j]?=some (.int .u8 zs[j]):=by
   simp only [u8s,List.map_map,List.getElem?_map,List.getElem?_take,hj,if_true,List.getElem?_eq_getElem (show j < zs.length by omega),Option.map_some,Function.comp]
   congr 2
   rw [UInt8.toNat_ofNat']
   omega
  rw [hgl] at hu
  rw [← hu]
  congr 2
  rw [List.getD_eq_getElem?_getD,List.getElem?_eq_getElem (show j < zs.length by omega)];rfl
theorem openCells {α:Type} {Rd:World→Value→α→Prop} {T E:TypeId} (ht:P.underlying T=some (.slice E)) (hc:P.cellsOf E=1) (hone:∀ n v y,DataW.trod enc P w base spare held n E [v]=some y→∃ x,Rd w v x) {a:Option Addr} {len cap fuel:Nat} {y:DataW H×List MemPlace}
  (h:DataW.trod enc P w base spare held fuel T [.slice a len cap]=some y):∃ L,ArgCellsOf Rd w a len cap L:=by
 rcases open_slice1 ht hc h with ⟨hcs,_⟩|⟨x,l,c,m,n,V,D,Pl,hcs,_,hl,hm,hmm,_,hi⟩
 ·simp at hcs
  obtain⟨rfl,rfl,rfl⟩:=hcs
  exact⟨[],rfl,Nat.le_refl _,Nat.zero_le _,by simp⟩
 ·simp at hcs
  obtain⟨rfl,rfl,rfl⟩:=hcs
  have hle:len≤m:=by rw [hmm];split <;> omega
  obtain⟨L,hL,hp⟩:=exists_list (p:=fun i z=>Rd w (V i) z) len (fun i hil=>hone _ _ _ (hi i (by omega)).2)
  refine⟨L,hL,hl,hm,fun i z hz=>?_⟩
  obtain⟨hil,rfl⟩:=List.getElem?_eq_some_iff.1 hz
  have h0:=(hi 0 (by omega)).1
  have e:=addr_none h0
  have h1:=(hi i (by omega)).1
  refine⟨x.block,x.off,V i,by rw [← e],?_,hp i hil⟩
  rw [e] at h1
  rw [add_plain] at h1
  exact h1
theorem openBss {T E B:TypeId} (ht:P.underlying T=some (.slice E)) (he:P.underlying E=some (.slice B)) (hb:P.underlying B=some (.int .u8)) (hc:P.cellsOf E=1) (hcb:P.cellsOf B=1) {a:Option Addr} {len cap:Nat} {d:DataW H} {p:List MemPlace}
  (h:DataW.Trod enc P w base spare held T (.slice a len cap) d p):∃ L,ArgBss w a len cap L:=by
 obtain⟨fuel,hf⟩:=h
 refine openCells ht hc (fun n v y hy=>?_) (by simpa [Value.cells] using hf)
 obtain⟨v',bs,e,hb⟩:=openAB he hb hcb hy
 cases e
 exact⟨bs,hb⟩
end
section
variable {w0 w:World} {R:List Asrt}
theorem cell_old (h:Own w0 w R) {a:Addr} {v:Value} (hc:w0.cell? a=some v):w.cell? a=some v:=by
 have hb:=World.block_lt_of_cell? _ _ hc
 rw [← hc]
 exact World.cell?_of_block (h.mod.block _ hb (by simp))
theorem Src.old (h:Own w0 w R) {A:Option Addr} {n k:Nat} {xs:List Value} (hs:Src w0 A n k xs):Src w A n k xs:=
 ⟨hs.len,fun h0=>by
  obtain⟨ad,e,hc⟩:=hs.at' h0
  exact⟨ad,e,fun j u hu=>cell_old h (hc j u hu)⟩⟩
end
def TrueP (w:World) (e:Ending) (w':World):Prop:=e=.returned (.bool true)∧Mod [] w w'
structure OpSt (M k:Nat) (kind ver:Nat) (size:Nat) (L:List (List UInt8)) (d:DiskD) (l:LogD):Prop where
 firm:Firm d l.m ((L.take k).map (fun b=>⟨kind,ver,b⟩)) 0
 loose:l.loose=false
 size:l.size=size
 ver:l.m.ver=ver
 rm:Rm d ((M - k) * 600+10000) ((M - k) * 2+20)
 segs:l.m.segs.length≤k+1
 next:l.m.next≤k+2
 ops:d.ops≤1000+20 * k
theorem OpSt.ok {M k kind ver size:Nat} {L:List (List UInt8)} {d:DiskD} {l:LogD} (h:OpSt M k kind ver size L d l) (hs:16≤size∧size≤1048576):LgOk l:=⟨by rw [h.size];exact hs.1,by rw [h.size];exact hs.2,h.firm.now.1⟩
theorem OpSt.step {M k kind ver size:Nat} {L:List (List UInt8)} {d:DiskD} {l:LogD} (h:OpSt M k kind ver size L d l) {x:List UInt8} (hx:L[k]?=some x) (hl:x.length≤300) (hk:k < M) (hM:M≤40) (hkind:kind < 256) (hver:ver < 256) :
  (appendL kind x (d,l)).2=0∧OpSt M (k+1) kind ver size L (appendL kind x (d,l)).1.1 (appendL kind x (d,l)).1.2:=by
 have hp:putErr kind l.m.ver x.length=0:=by
  unfold putErr
  rw [h.ver,if_neg (by omega),if_neg (by omega)]
 have hseg:=h.segs
 have hnext:=h.next
 obtain⟨a1,a2,a3,a4⟩:=append_rm (B:=(M - (k+1)) * 600+10000) (n:=(M - (k+1)) * 2+20) h.firm h.loose kind x (h.rm.le (by omega) (by omega)) (by omega) (by omega) hp
 obtain⟨b1,b2,b3⟩:=append_inv (Fr0:=[]) (s0:=0) (Or.inl ⟨h.loose,h.firm⟩) kind x
 have hops:=appendL_ops kind x (d,l)
 rcases b3 with ⟨_,b4,b5⟩|⟨b4,_⟩
 ·refine⟨a1,?_,b4,by rw [b1,h.size],by rw [b2,h.ver],a2,by omega,by omega,?_⟩
  ·have e:(L.take (k+1)).map (fun b=>(⟨kind,ver,b⟩:FrD))=(L.take k).map (fun b=>⟨kind,ver,b⟩)++[⟨(kind:Int).toNat,l.m.ver,x⟩]:=by
    rw [List.take_add_one,hx,h.ver]
    simp
   rw [e];exact b5
  ·have:=h.ops
   simp only at hops;omega
 ·exact absurd a1 b4
theorem OpSt.start {M ver:Nat} (L:List (List UInt8)) (kind:Nat) (size:Int) (hv:1≤ver∧ver≤3) (hM:M≤40) :
  ∃ d,createD ver size (dNew 200000)=(d,some ⟨sized size,firstM ver,false⟩,0)∧OpSt M 0 kind ver (sized size) L d ⟨sized size,firstM ver,false⟩:=by
 obtain⟨d',h1,h2,h3⟩:=create_rm (B:=M * 600+10000) (n:=M * 2+20) (dNew_ok 200000) ⟨rfl,by show 0+_≤200000;omega,by show 0+_≤200;omega,by show 200000≤_;omega⟩ rfl hv size
 refine⟨d',h1,h2,rfl,rfl,rfl,h3.le (by omega) (by omega),by simp [firstM],by simp [firstM],?_⟩
 have ho:(createD ver size (dNew 200000)).1.ops≤(dNew 200000).ops+8:=by
  unfold createD
  split
  ·simp only;omega
  ·split
   ·simp only;omega
   ·simp only
    have hb:=beginD_ops 1 (dNew 200000)
    have:(thenD (thenD (beginD 1 (dNew 200000)) (fun d=>dSync d (segName 1))) (fun d=>((commitD (firstM ((ver:Int).toNat)) d).1,(commitD (firstM ((ver:Int).toNat)) d).2.2))).1.ops≤(dNew 200000).ops+8:=by
     have h1:(thenD (beginD 1 (dNew 200000)) (fun d=>dSync d (segName 1))).1.ops≤(dNew 200000).ops+2+1:=thenD_le (μ:=fun t:DiskD=>t.ops) (a:=(dNew 200000).ops+2) (b:=1) hb (fun t=>dSync_ops t _)
     exact thenD_le (μ:=fun t:DiskD=>t.ops) (a:=(dNew 200000).ops+2+1) (b:=5) h1 (fun t=>commitD_ops _ t)
    split <;> exact this
 rw [h1] at ho
 have:(dNew 200000).ops=0:=rfl
 simp only at ho;omega
theorem sized_ok (n:Int):16≤sized n∧sized n≤1048576:=by unfold sized;omega
def empA:Asrt:=fun w F=>F=[]
section
variable {F0:List Nat} {w0 w:World} {R:List Asrt}
end
section
variable {H:Type} {enc:TypeId×Value→H} {w:World} {base:Nat} {spare:Nat→Bool} {held:Bool}
theorem openBssA {a:Option Addr} {len cap:Nat} {d:DataW H} {p:List MemPlace} (h:DataW.Trod enc Tryz.prog w base spare held 22 (.slice a len cap) d p):∃ L,ArgBss w a len cap L:=
 openBss Tryz.underlying22 Tryz.underlying32 Tryz.underlying5 (by kernel_rfl) (by kernel_rfl) h
end
theorem Other.read {K:ByteArray→Prop} {d d':DiskD} (h:Other K d d') {n:ByteArray} (hn:K n):dRead d' n=dRead d n:=by
 unfold dRead
 rw [h.names n hn]
 cases e:nmAt d.now n with
 | none=>rfl
 | some i=>simp only [Option.map_some];rw [h.files n i hn e]
def SzOk (size:Nat) (b:List UInt8):Prop:=∃ F:List FrD,b=frJoin F∧(∀ f∈F,FrOk f)∧(b.length≤size∨F.length=1)
def SzInv (d:DiskD) (l:LogD):Prop:=∀ s∈l.m.segs,∃ b,dRead d (segName s)=some b∧SzOk l.size b
def Only (d:DiskD) (K:ByteArray→Prop):Prop:=∀ n,nmAt d.now n≠Option.none→K n
section
variable {d:DiskD} {K K':ByteArray→Prop}
theorem Only.mono (h:Only d K) (hk:∀ n,K n→K' n):Only d K':=fun n hn=>hk n (h n hn)
theorem only_sync (h:Only d K) (n:ByteArray):Only (dSync d n).1 K:=by
 rcases dSync_cases d n with ⟨e,h1,_⟩|⟨_,i,_,h1⟩ <;> (rw [h1];exact h)
theorem only_dir (h:Only d K):Only (dSyncDir d).1 K:=by
 rcases dSyncDir_cases d with h1 | ⟨_,h1⟩ <;> (rw [h1];exact h)
theorem only_append (hok:DiskOk d) (h:Only d K) (n:ByteArray) (b:List UInt8):Only (dAppend d n b).1 (fun x=>K x∨x=n):=by
 rcases dAppend_cases d n b with ⟨e,h1,_⟩|⟨_,_,_,⟨i,h4,h5⟩|⟨h4,h5⟩⟩
 ·rw [h1];exact fun x hx=>Or.inl (h x hx)
 ·rw [h5];exact fun x hx=>Or.inl (h x hx)
 ·rw [h5]
  intro x hx
  have e:=nmAt_put hok.now.row n x d.files.length
  by_cases hc:x=n
  ·exact Or.inr hc
  ·refine Or.inl (h x (fun e0=>hx ?_))
   show nmAt (nmPut d.now n d.files.length) x=_
   rw [e,if_neg hc];exact e0
theorem only_append_in (hok:DiskOk d) (h:Only d K) {n:ByteArray} (hn:K n) (b:List UInt8):Only (dAppend d n b).1 K:=
 (only_append hok h n b).mono (fun x hx=>hx.elim id (fun e=>by rw [e];exact hn))
theorem only_remove (hok:DiskOk d) (hf:d.fail=0) (h:Only d K) (n:ByteArray):Only (dRemove d n).1 (fun x=>K x∧x≠n):=by
 unfold dRemove
 rw [if_neg (fails_not hf)]
 cases e:nmAt d.now n with
 | none=>exact fun x hx=>⟨h x hx,fun e'=>hx (by rw [e'];exact e)⟩
 | some i=>
  intro x hx
  have e2:=nmAt_del hok.now.row n x
  by_cases hc:x=n
  ·refine absurd ?_ hx
   show nmAt (nmDel d.now n) x=_
   rw [e2,if_pos hc]
  ·refine⟨h x (fun e0=>hx ?_),hc⟩
   show nmAt (nmDel d.now n) x=_
   rw [e2,if_neg hc];exact e0
theorem only_clear (hok:DiskOk d) (hf:d.fail=0) (h:Only d K) (n:ByteArray):Only (clearD n d).1 (fun x=>K x∧x≠n):=by
 unfold clearD
 by_cases hs:(nmAt d.now n).isSome=true
 ·rw [if_pos hs];exact only_remove hok hf h n
 ·rw [if_neg hs]
  exact fun x hx=>⟨h x hx,fun e=>hs (by rw [← e];exact Option.isSome_iff_ne_none.2 hx)⟩
theorem only_rename (hok:DiskOk d) (hf:d.fail=0) (h:Only d K) {a b:ByteArray} (hab:a≠b) (h0:(dRename d a b).2=0):Only (dRename d a b).1 (fun x=>(K x∨x=b)∧x≠a):=by
 rcases dRename_cases d a b with ⟨e,h1,he⟩|⟨_,⟨i,hi⟩,hb,⟨e,_⟩|⟨_,h1⟩⟩
 ·rw [h1] at h0;simp only at h0;omega
 ·exact absurd e hab
 ·rw [h1]
  intro x hx
  have e0:(dChange (dTick d) (.ren a b)).now=nmDel (nmPut d.now b i) a:=by
   show (match nmAt d.now a with | some f=>nmDel (nmPut d.now b f) a | Option.none=>d.now)=_
   rw [hi]
  rw [e0,nmAt_del (nmPut_row hok.now.row b i) a x] at hx
  by_cases hc:x=a
  ·rw [if_pos hc] at hx;exact absurd rfl hx
  rw [if_neg hc,nmAt_put hok.now.row b x i] at hx
  refine⟨?_,hc⟩
  by_cases hb':x=b
  ·exact Or.inr hb'
  ·rw [if_neg hb'] at hx;exact Or.inl (h x hx)
theorem fresh_only {B n:Nat} (hok:DiskOk d) {m:ManD} (hm:mayM m=true) (h:Rm d (B+278) (n+1)) (ho:Only d K):Only (freshD m d).1 (fun x=>(K x∨x=nmHead)∧x≠nmFresh):=by
 have hl:=man_len hm
 obtain⟨a1,a2⟩:=clear_rm h nmFresh
 have a3:=clear_ok hok nmFresh
 have a4:=clear_none (n:=nmFresh) hok
 have a5:=only_clear hok h.fail ho nmFresh
 have hfresh:freshD m d=thenD (thenD (thenD (clearD nmFresh d) (fun d=>dAppend d nmFresh (frBytes (manFr m)))) (fun d=>dSync d nmFresh)) (fun d=>dRename d nmFresh nmHead):=rfl
 generalize clearD nmFresh d=r1 at *
 rw [thenD_ok a1] at hfresh
 obtain⟨b1,b2,_⟩:=app_rm a3 a2 (nm:=nmFresh) (by decide) (b:=frBytes (manFr m)) (by omega) (fun _=>by omega)
 have b3:=dAppend_ok a3 nmFresh (frBytes (manFr m))
 have b4:=append_new a3 (b:=frBytes (manFr m)) (a4 a1) b1
 have b5:=only_append a3 a5 nmFresh (frBytes (manFr m))
 rw [if_pos (a4 a1)] at b2
 generalize dAppend r1.1 nmFresh (frBytes (manFr m))=r2 at *
 rw [thenD_ok b1] at hfresh
 obtain⟨i,i1,_,_⟩:=b4
 obtain⟨c1,c2,c4⟩:=sync_rm b3 b2 i1
 have c3:=dSync_ok b3 nmFresh
 have c5:=only_sync b5 nmFresh
 generalize dSync r2.1 nmFresh=r3 at *
 rw [thenD_ok c1] at hfresh
 rw [hfresh]
 obtain⟨e1,e2⟩:=rename_rm c3 c2 (a:=nmFresh) (b:=nmHead) (i:=i) (by rw [c4];exact i1) (by decide) (fun e=>head_fresh e.symm)
 refine (only_rename c3 c2.fail c5 (fun e=>head_fresh e.symm) e1).mono (fun x hx=>⟨?_,hx.2⟩)
 rcases hx.1 with (h1 | h1) | h1
 ·exact Or.inl h1.1
 ·exact absurd h1 hx.2
 ·exact Or.inr h1
theorem commit_only {B n:Nat} (hok:DiskOk d) {m:ManD} (hm:mayM m=true) (h:Rm d (B+278) (n+1)) (ho:Only d K) (hk:K nmHead):Only (commitD m d).1 K:=by
 have h1:=fresh_only hok hm h ho
 obtain⟨a1,a2⟩:=fresh_rm hok hm h
 unfold commitD
 rw [if_neg (by simp [hm]),if_neg (by simp [a1])]
 exact (only_dir h1).mono (fun x hx=>hx.1.elim id (fun e=>by rw [e];exact hk))
theorem begin_only {B n s:Nat} (hok:DiskOk d) (hs:1≤s∧s < 1000000) (h:Rm d B (n+1)) (ho:Only d K):Only (beginD s d).1 (fun x=>K x∨x=segName s):=by
 obtain⟨a1,a2⟩:=clear_rm h (segName s)
 have a3:=clear_ok hok (segName s)
 have a5:=only_clear hok h.fail ho (segName s)
 have hb:beginD s d=thenD (clearD (segName s) d) (fun d=>dAppend d (segName s) []):=rfl
 generalize clearD (segName s) d=r1 at *
 rw [thenD_ok a1] at hb
 rw [hb]
 exact (only_append a3 a5 (segName s) []).mono (fun x hx=>hx.elim (fun e=>Or.inl e.1) Or.inr)
end
theorem turn_only {d:DiskD} {l:LogD} {Fr:List FrD} {s B n:Nat} (h:Firm d l.m Fr s) (hr:Rm d (B+278) (n+2)) (hs:l.m.segs.length < 64) (hn:l.m.next < 1000000) (ho:Only d (Mine l.m.segs)) :
  Only (turnL (d,l)).1.1 (Mine (turnM l).segs):=by
 obtain⟨_,hm1⟩:=mayM_iff.1 h.now.1
 have hn1:=(mayM_iff.1 h.now.1).1.2.2.2.2.1
 have hmt:mayM (turnM l)=true:=by
  obtain⟨⟨v1,v2,s1,s2,n1,n2⟩,hu⟩:=mayM_iff.1 h.now.1
  refine mayM_iff.2 ⟨⟨v1,v2,by simp [turnM],by simp [turnM];omega,by simp [turnM],by simp [turnM];omega⟩,?_⟩
  refine upB_of ?_ (fun x hx=>?_)
  ·refine List.pairwise_append.2 ⟨mayM_pair h.now.1,List.pairwise_singleton _ _,fun a ha b hb=>?_⟩
   simp at hb;subst hb
   exact (mayM_seg h.now.1 ha).2.1
  ·rcases List.mem_append.1 hx with hx | hx
   ·have:=mayM_seg h.now.1 hx;exact⟨by omega,by simp [turnM];omega⟩
   ·simp at hx;subst hx;exact⟨by omega,by simp [turnM]⟩
 unfold turnL
 simp only
 rw [if_neg (by omega)]
 have e1:onDisk (fun d=>dSync d (lastS l)) (d,l)=(((dSync d (lastS l)).1,l),(dSync d (lastS l)).2):=rfl
 rw [e1]
 obtain⟨C,L,k,g1,rfl,g3⟩:=h.now.2.2
 obtain⟨i,i1,_,_⟩:=g1.last
 rw [← lastS_eq g1.len] at i1
 obtain⟨a1,a2,a3⟩:=sync_rm h.ok hr i1
 have a4:=dSync_ok h.ok (lastS l)
 have a5:=only_sync ho (lastS l)
 generalize dSync d (lastS l)=r1 at *
 have a1':(((r1.1,l),r1.2):DL×Int).2=0:=a1
 rw [thenD_ok a1']
 have e2:onDisk (beginD l.m.next) (r1.1,l)=(((beginD l.m.next r1.1).1,l),(beginD l.m.next r1.1).2):=rfl
 rw [e2]
 obtain⟨b1,b2,b3,b4⟩:=begin_rm a4 ⟨hn1,hn⟩ (n:=n+1) a2
 have b5:=begin_only a4 ⟨hn1,hn⟩ (n:=n+1) a2 a5
 generalize beginD l.m.next r1.1=r2 at *
 have b1':(((r2.1,l),r2.2):DL×Int).2=0:=b1
 rw [thenD_ok b1']
 have e3:onDisk (fun d=>dSync d (segName l.m.next)) (r2.1,l)=(((dSync r2.1 (segName l.m.next)).1,l),(dSync r2.1 (segName l.m.next)).2):=rfl
 rw [e3]
 obtain⟨j,j1,_,_⟩:=b4
 obtain⟨c1,c2,c3⟩:=sync_rm b3 b2 j1
 have c4:=dSync_ok b3 (segName l.m.next)
 have c5:=only_sync b5 (segName l.m.next)
 generalize dSync r2.1 (segName l.m.next)=r3 at *
 have c1':(((r3.1,l),r3.2):DL×Int).2=0:=c1
 rw [thenD_ok c1']
 have c6:Only r3.1 (Mine (turnM l).segs):=c5.mono (fun x hx=>by
  rcases hx with (hx | ⟨s,hs,hx⟩) | hx
  ·exact Or.inl hx
  ·exact Or.inr ⟨s,by simp [turnM,hs],hx⟩
  ·exact Or.inr ⟨l.m.next,by simp [turnM],hx⟩)
 have d3:=commit_only c4 hmt c2 c6 (Or.inl rfl)
 unfold adoptL
 simp only
 exact d3
theorem append_only {d:DiskD} {l:LogD} {Fr:List FrD} {s B n:Nat} (h:Firm d l.m Fr s) (hl:l.loose=false) (kind:Int) (body:List UInt8) (hr:Rm d (B+278+(16+body.length)) (n+2)) (hs:l.m.segs.length < 64) (hn:l.m.next < 1000000) (hp:putErr kind l.m.ver body.length=0) (ho:Only d (Mine l.m.segs)) :
  Only (appendL kind body (d,l)).1.1 (Mine (appendL kind body (d,l)).1.2.m.segs):=by
 have hset:settleL (d,l)=((d,l),0):=by unfold settleL;simp [hl]
 unfold appendL
 simp only
 rw [if_neg (by simp [hp]),hset,thenD_ok (r:=((d,l),(0:Int))) rfl]
 simp only
 have hfl:(frBytes ⟨kind.toNat,l.m.ver,body⟩).length=16+body.length:=frBytes_length _
 generalize hgen:(if fitsL l (bytesD d (lastS l)) (frBytes ⟨kind.toNat,l.m.ver,body⟩).length=true then ((d,l),(0:Int)) else turnL (d,l))=r2
 have h5:r2.2=0∧Only r2.1.1 (Mine r2.1.2.m.segs)∧∃ Fr' s',Firm r2.1.1 r2.1.2.m Fr' s':=by
  rw [← hgen]
  split
  ·exact⟨rfl,ho,Fr,s,h⟩
  ·obtain⟨t1,t2,t3⟩:=turn_rm (B:=B+(16+body.length)) (n:=n) h (by rw [show B+(16+body.length)+278=B+278+(16+body.length) by omega];exact hr) hs hn
   have t4:=turn_only (B:=B+(16+body.length)) (n:=n) h (by rw [show B+(16+body.length)+278=B+278+(16+body.length) by omega];exact hr) hs hn ho
   obtain⟨_,u2,u3⟩:=turn_inv h hl
   refine⟨t1,by rw [t3];exact t4,?_⟩
   rcases u3 with ⟨_,_,u6⟩|⟨u4,_⟩
   ·exact⟨_,_,u6⟩
   ·exact absurd t1 u4
 clear hgen
 obtain⟨h6,h7,Fr',s',h11⟩:=h5
 rw [thenD_ok h6]
 unfold onDisk
 simp only
 obtain⟨C,L,k,g1,_,g3⟩:=h11.now.2.2
 refine only_append_in h11.ok h7 ?_ _
 rw [lastS_eq g1.len]
 exact Or.inr ⟨_,getD_memN (by rw [g1.len];omega),rfl⟩
theorem meas_lt {n j:Nat} (h:(j:Int) < (n:Int)):n - (intOf (.int .i64 ((j:Int)+1))).toNat < n - (intOf (.int .i64 (j:Int))).toNat:=by
 simp only [intOf];omega
structure FrI where
 kind:Int
 ver:Int
 body:List UInt8
def FrIAt (w:World) (g o:Nat) (f:FrI):Prop:=w.cell? ⟨g,o,none⟩=some (.int .i64 f.kind)∧w.cell? ⟨g,o+1,none⟩=some (.int .i64 f.ver)∧∃ v,w.cell? ⟨g,o+2,none⟩=some v∧AB w v f.body
structure ArgStr {α:Type} (k:Nat) (Rd:World→Nat→Nat→α→Prop) (w:World) (v:Value) (L:List α):Prop where
 ex:∃ a c,v=.slice a L.length c∧L.length≤c∧c≤maxLen∧∀ i x,L[i]?=some x→∃ g o,a=some ⟨g,o,none⟩∧Rd w g (o+i * k) x
abbrev ArgFrs:=ArgStr 3 FrIAt
structure CallI where
 act:Int
 n:Int
 b:List UInt8
 rows:List FrI
def CallIAt (w:World) (g o:Nat) (c:CallI):Prop:=w.cell? ⟨g,o,none⟩=some (.int .i64 c.act)∧w.cell? ⟨g,o+1,none⟩=some (.int .i64 c.n)∧(∃ v,w.cell? ⟨g,o+2,none⟩=some v∧AB w v c.b)∧∃ v,w.cell? ⟨g,o+3,none⟩=some v∧ArgFrs w v c.rows
abbrev ArgCalls6:=ArgStr 4 CallIAt
section
variable {H:Type} {enc:TypeId×Value→H} {w:World} {base:Nat} {spare:Nat→Bool} {held:Bool}
end
section
variable {w0 w:World} {R:List Asrt}
end
theorem RowA.noc {T:TypeId} {k n n' c:Nat} {a:Option Addr} {xs:List Value} {w:World} {F:List Nat} (h:RowA T k (.slice a n c) n' xs w F) (ha:a=none):c=0:=by
 obtain⟨h0,h1,h2⟩:=h
 rcases h2 with ⟨e,_⟩|⟨g,cap,cur,e,_⟩
 ·cases e;rfl
 ·cases e;cases ha
theorem Src.plain {w:World} {A:Option Addr} {m k:Nat} {news:List Value} (h:Src w A m k news) (h0:0 < m) (hk:0 < k):∃ g o,A=some ⟨g,o,none⟩∧∀ j u,news[j]?=some u→w.cell? ⟨g,o+j,none⟩=some u:=by
 obtain⟨ad,e,hc⟩:=h.at' h0
 have hl:0 < news.length:=by rw [h.len];exact Nat.mul_pos h0 hk
 have c0:=hc 0 _ (List.getElem?_eq_getElem hl)
 have e2:=addr_none c0
 refine⟨ad.block,ad.off,by rw [e];exact congrArg some e2,fun j u hu=>?_⟩
 have:=hc j u hu
 rw [e2,add_plain] at this
 exact this
def RowV (F0:List Nat) (w0:World) (R:List Asrt) (A:Option Addr) (n k:Nat) (xs:List Value):Prop:=∀ w',In F0 w0 w' R→Src w' A n k xs
section
variable {F0:List Nat} {w0 w:World} {R:List Asrt}
def EqRel {α:Type} (l1 l2:List α) (F0:List Nat) (w0:World) (R:List Asrt) (i:Value) (wr:World):Prop:=∃ k:Nat,k≤l1.length∧i=.int .i64 k∧l1.take k=l2.take k∧In F0 w0 wr R
end
section
variable {F0:List Nat} {w0 w:World} {R:List Asrt}
abbrev IntsR (v:Value) (l:List Nat):Asrt:=RowA 3 1 v l.length (segV l)
theorem segV_ones (l:List Nat):∀ u∈segV l,u.oneCell'=true:=by
 intro u hu
 simp only [segV,List.mem_map] at hu
 obtain⟨s,_,rfl⟩:=hu;rfl
theorem icl_some (h:In F0 w0 w R) {ad:Addr} {l:List Nat} {c:Nat} (hs:Src w (some ad) l.length 1 (segV l)) (hn:l.length≤1000000) :
  Calls Tryz.prog 50 #[.slice (some ad) l.length c] w fun e w'=>∃ a c',e=.returned (.slice a l.length c')∧In F0 w0 w' (IntsR (.slice a l.length c') l::R):=by
 have HH:=Lib.hid h
 have HS:=Lib.hid hs
 clear h hs
 have hq:∀ (w:World) (a:Option Addr) (n c n' c':Nat),(binOp .eql 36 (.slice a n c) (.slice none n' c')).run Tryz.prog w=.ok (.bool a.isNone) w:=fun w a n c n' c'=>Lib.run_eql_slice_nil w _ _ a n c n' c' Tryz.underlying36
 go_enter Tryz.func50,Tryz.ntmps50
 go_wp2_with (at_builtin;refine app_list rfl ((HH.out.cells #[] 3).row0 (k:=1) 0 rfl) 0 rfl (.tmp 5) (.tmp 6) 36 (by rfl) Tryz.underlying36 infoInt (by decide) (by decide) (by rfl) (by rfl) (src_alloc HS.out _) (segV_ones _) (by omega) ?_)
 intro v' w3 ho hg
 have ho':In F0 w0 w3 (IntsR v' l::R):=by simpa using ho
 obtain⟨Fv,rv⟩:=ho'.get 0 rfl
 obtain⟨a,c',rfl,-,-,-⟩:=RowA.shape rv
 have HO:=Lib.hid ho'
 clear ho hg ho' rv
 go_wp2_with fail
 go_ret
 exact⟨_,_,rfl,HO.out⟩
theorem icl_none (h:In F0 w0 w R):Calls Tryz.prog 50 #[.slice none 0 0] w fun e w'=>∃ a c',e=.returned (.slice a 0 c')∧In F0 w0 w' (IntsR (.slice a 0 c') []::R):=by
 have HH:=Lib.hid (h.rownil 3 1)
 clear h
 have hq:∀ (w:World) (a:Option Addr) (n c n' c':Nat),(binOp .eql 36 (.slice a n c) (.slice none n' c')).run Tryz.prog w=.ok (.bool a.isNone) w:=fun w a n c n' c'=>Lib.run_eql_slice_nil w _ _ a n c n' c' Tryz.underlying36
 go_enter Tryz.func50,Tryz.ntmps50
 go_wp2_with fail
 go_ret
 exact⟨_,_,rfl,HH.out⟩
theorem o_iclone (h:In F0 w0 w R) {A:Option Addr} {c:Nat} {l:List Nat} (hn:A=none→c=0) (hs:Src w A l.length 1 (segV l)) (hl:l.length≤1000000) :
  Calls Tryz.prog 50 #[.slice A l.length c] w fun e w'=>∃ a c',e=.returned (.slice a l.length c')∧In F0 w0 w' (IntsR (.slice a l.length c') l::R):=by
 cases A with
 | none=>
  obtain rfl:=hn rfl
  have:l=[]:=by
   cases l with
   | nil=>rfl
   | cons b l=>obtain⟨ad,e,_⟩:=hs.at' (by simp);cases e
  subst this
  exact icl_none h
 | some ad=>exact icl_some h hs hl
theorem segV_ix {l:List Nat} {k x:Nat} (h:l[k]?=some x):(segV l)[k]?=some (.int .i64 (x:Int)):=by simp [segV,h]
def IdxIRel (l:List Nat) (x:Nat) (w:World) (i:Value) (wr:World):Prop:=∃ k:Nat,k≤l.length∧i=.int .i64 k∧(∀ y∈l.take k,y≠x)∧wr=w
theorem o_iidx {A:Option Addr} {c:Nat} {l:List Nat} {x:Nat} (hs:Src w A l.length 1 (segV l)) (hl:l.length≤1000000) :
  Calls Tryz.prog 120 #[.slice A l.length c,.int .i64 x] w fun e w'=>∃ z:Int,e=.returned (.int .i64 z)∧decide (0≤z)=l.contains x∧w'=w:=by
 have HR:Hid (IdxIRel l x w (.int .i64 0) w):=Lib.hid ⟨0,Nat.zero_le _,rfl,by simp,rfl⟩
 have HS:=Lib.hid hs
 clear hs
 go_enter Tryz.func120,Tryz.ntmps120
 go_wp2_with fail
 go_loopw [8] (IdxIRel l x w) (fun k _=>l.length - (intOf k).toNat)
 case atStart=>exact HR.out
 case round=>
  obtain⟨k,hk,rfl,ht,rfl⟩:=hrel
  clear HR
  by_cases hlt:k < l.length
  ·obtain⟨y,hy⟩:∃ y,l[k]?=some y:=⟨l[k],List.getElem?_eq_getElem hlt⟩
   obtain⟨g1,o1,rfl,s1⟩:=HS.out.plain (by omega) (by decide)
   have c0:=s1 k _ (segV_ix hy)
   have hlt':(k:Int) < (l.length:Int):=Int.ofNat_lt.2 hlt
   have hw2:wrap64 ((k:Int)+1)=(k:Int)+1:=by unfold wrap64;omega
   by_cases hxy:y=x
   ·have q:((x:Int) == (y:Int))=true:=by rw [beq_iff_eq];omega
    have HC:Hid (decide ((0:Int)≤(k:Int))=l.contains x):=Lib.hid (by
     rw [decide_eq_true (by omega)]
     symm
     simp only [List.contains_eq_mem,decide_eq_true_eq]
     rw [← hxy];exact List.mem_of_getElem? hy)
    clear s1 hy ht hk hlt hxy HS
    go_wp2_with fail
    go_ret
    exact⟨_,rfl,HC.out,rfl⟩
   ·have q:((x:Int) == (y:Int))=false:=by rw [beq_eq_false_iff_ne];omega
    have HR:Hid (IdxIRel l x wr (.int .i64 ((k:Int)+1)) wr):=Lib.hid ⟨k+1,(List.getElem?_eq_some_iff.1 hy).1,by rw [Int.natCast_add];rfl,by
     intro z hz
     rw [List.take_add_one,hy] at hz
     rcases List.mem_append.1 hz with hz | hz
     ·exact ht z hz
     ·simp at hz;rw [hz];exact hxy,rfl⟩
    clear s1 hy ht hk hlt hxy
    go_wp2_with fail
    go_roundw
    case rel=>(try rw [hw2]);exact HR.out
    case measure=>(try rw [hw2]);exact meas_lt hlt'
  ·have hge:(l.length:Int)≤(k:Int):=Int.ofNat_le.2 (Nat.le_of_not_lt hlt)
   have HC:Hid (decide ((0:Int)≤-1)=l.contains x):=Lib.hid (by
    rw [decide_eq_false (by omega)]
    symm
    simp only [List.contains_eq_mem,decide_eq_false_iff_not]
    rw [List.take_of_length_le (Nat.le_of_not_lt hlt)] at ht
    exact fun hm=>ht x hm rfl)
   clear ht hk hlt
   go_wp2_with fail
   go_ret
   exact⟨_,rfl,HC.out,rfl⟩
theorem o_icont {A:Option Addr} {c:Nat} {l:List Nat} {x:Nat} (hs:Src w A l.length 1 (segV l)) (hl:l.length≤1000000) :
  Calls Tryz.prog 62 #[.slice A l.length c,.int .i64 x] w fun e w'=>e=.returned (.bool (l.contains x))∧w'=w:=by
 have K:=Lib.hid (o_iidx (c:=c) (x:=x) hs hl)
 clear hs
 go_enter Tryz.func62,Tryz.ntmps62
 go_wp2_with fail
 refine K.out.mono ?_
 rintro e w1 ⟨z,rfl,hz,rfl⟩
 have HZ:=Lib.hid hz
 clear hz K
 go_wp2_with fail
 go_ret
 exact⟨by rw [← HZ.out];rfl,rfl⟩
end
/-! ### Names of segments,read -/
def isDig (x:UInt8):Bool:=decide (48≤x.toNat∧x.toNat≤57)
def digN (l:List UInt8):Nat:=l.foldl (fun n x=>n * 10+(x.toNat - 48)) 0
def numD (n:ByteArray):Option Nat:=
 match n.data.toList with
 | h::t=>if h=115∧t.length=6∧t.all isDig=true∧0 < digN t then some (digN t) else none
 | []=>none
theorem digN_snoc (l:List UInt8) (x:UInt8):digN (l++[x])=digN l * 10+(x.toNat - 48):=by simp [digN]
theorem dig_of {x:UInt8} {n k:Nat} (hx:isDig x=true) (h:n / 10 ^ k % 10=x.toNat - 48):dig n k=x:=by
 simp only [isDig,decide_eq_true_eq] at hx
 unfold dig
 rw [h]
 apply UInt8.toNat.inj
 rw [UInt8.toNat_ofNat']
 omega
theorem numD_seg {n:ByteArray} {k:Nat} (h:numD n=some k):n=segName k∧1≤k∧k < 1000000:=by
 unfold numD at h
 rcases e:n.data.toList with _ | ⟨x,t⟩
 ·rw [e] at h;simp at h
 ·rw [e] at h
  simp only at h
  split at h
  ·rename_i hc
   obtain⟨rfl,hl,hd,h0⟩:=hc
   injection h with h
   subst h
   match t,hl,hd,h0,e with
   | [a,b,c,d,e',f],_,hd,h0,e=>
    simp only [List.all_cons,List.all_nil,Bool.and_true,Bool.and_eq_true] at hd
    obtain⟨ha,hb,hc,hd',he,hf⟩:=hd
    have q:digN [a,b,c,d,e',f]=(((((a.toNat - 48) * 10+(b.toNat - 48)) * 10+(c.toNat - 48)) * 10+(d.toNat - 48)) * 10+(e'.toNat - 48)) * 10+(f.toNat - 48):=by simp [digN]
    have la:=ha;have lb:=hb;have lc:=hc;have ld:=hd';have le:=he;have lf:=hf
    simp only [isDig,decide_eq_true_eq] at la lb lc ld le lf
    have hlt:digN [a,b,c,d,e',f] < 1000000:=by omega
    refine⟨?_,h0,hlt⟩
    rw [segName_val ⟨h0,hlt⟩]
    have d5:=dig_of (n:=digN [a,b,c,d,e',f]) (k:=5) ha (by rw [q];omega)
    have d4:=dig_of (n:=digN [a,b,c,d,e',f]) (k:=4) hb (by rw [q];omega)
    have d3:=dig_of (n:=digN [a,b,c,d,e',f]) (k:=3) hc (by rw [q];omega)
    have d2:=dig_of (n:=digN [a,b,c,d,e',f]) (k:=2) hd' (by rw [q];omega)
    have d1:=dig_of (n:=digN [a,b,c,d,e',f]) (k:=1) he (by rw [q];omega)
    have d0:=dig_of (n:=digN [a,b,c,d,e',f]) (k:=0) hf (by rw [q];omega)
    rw [d5,d4,d3,d2,d1,d0]
    cases n with
    | mk data=>simp only at e;rw [← e]
  ·cases h
/-! ### What is no part of the log goes -/
def dirtyD (l:LogD) (n:ByteArray):Bool:=decide (n=nmFresh) || (match numD n with | some k=>!l.m.segs.contains k | none=>false)
def cleanD (l:LogD):List ByteArray→DiskD→DiskD
 | [],d=>d
 | n::r,d=>cleanD l r (if dirtyD l n=true then (dRemove d n).1 else d)
theorem cleanD_snoc (l:LogD):∀ (L:List ByteArray) (n:ByteArray) (d:DiskD),cleanD l (L++[n]) d=if dirtyD l n=true then (dRemove (cleanD l L d) n).1 else cleanD l L d
 | [],n,d=>rfl
 | x::r,n,d=>cleanD_snoc l r n _
theorem dirty_not {l:LogD} {n:ByteArray} (hm:∀ s∈l.m.segs,1≤s∧s < 1000000) (h:dirtyD l n=true):¬ Mine l.m.segs n:=by
 unfold dirtyD at h
 simp only [Bool.or_eq_true,decide_eq_true_eq] at h
 rcases h with h | h
 ·rw [h];exact mine_fresh
 ·cases e:numD n with
  | none=>rw [e] at h;cases h
  | some k=>
   rw [e] at h
   simp only [Bool.not_eq_true',List.contains_eq_mem,decide_eq_false_iff_not] at h
   obtain⟨rfl,hk⟩:=numD_seg e
   exact mine_not hm h
theorem clean_firm {l:LogD} {Fr:List FrD} {s:Nat}:∀ (L:List ByteArray) (d:DiskD),Firm d l.m Fr s→Firm (cleanD l L d) l.m Fr s
 | [],_,h=>h
 | n::r,d,h=>by
  refine clean_firm r _ ?_
  split
  ·rename_i hd
   exact h.other (fun _ h=>h) (Other.remove h.ok (dirty_not h.valid hd)) (dRemove_ok h.ok n)
  ·exact h
theorem clean_ops (l:LogD):∀ (L:List ByteArray) (d:DiskD),(cleanD l L d).ops≤d.ops+L.length
 | [],d=>Nat.le_refl _
 | n::r,d=>by
  have h1:=clean_ops l r (if dirtyD l n=true then (dRemove d n).1 else d)
  have h2:(if dirtyD l n=true then (dRemove d n).1 else d).ops≤d.ops+1:=by
   split
   ·have:=(dOps d n n [] 0).2.2.2.2.1;omega
   ·omega
  show (cleanD l r _).ops≤d.ops+(r.length+1)
  omega
end Go.Proofs.YtaopfagclnocdaaGreatDoor
